/-
  Several texts in one: HeN, HeNV, HeO, HeQ, CoGL, CoGB, CoGC, CoS, CoTL, CoW, CoX, CoZA, CoY, CoZB, CoT, CoZ, CoZC, CoZD, CoZE, CoV, CoHd, CoJ, HeR, HfA, HfB, HfC, HfL, HfD, HfF, HfG, HfH, RefBytes, RefName, SzAR, HfI.
-/
import Derived.Test.YtfecgebhoondjaaGreatDoorPQ
import Derived.Test.YtfecgebhoondjaaGreatDoorPA
import Derived.Test.YtfecgebhoondjaaGreatDoorPN
import Derived.Test.YtfecgebhoondjaaGreatDoorPO
import Derived.Test.YtfecgebhoondjaaGreatDoorPP
import Derived.Test.YtfecgebhoondjaaGreatDoorPB
import Derived.Deep.LoopGhost
import Derived.Lib.OwnBridge
import Derived.Shelf.SlSortCmp.NoneTotal
import Derived.Deep.QuietTactic
import Derived.Test.YtfecgebhoondjaaGreatDoorPM
import Derived.Test.YtfecgebhoondjaaGreatDoorPC
import Derived.Test.YtfecgebhoondjaaGreatDoorPK
import Derived.Test.YtfecgebhoondjaaGreatDoorPL
set_option linter.unusedVariables false
namespace Go.Proofs.YtfecgebhoondjaaGreatDoor
open Go.RowKit Go.Lib R
set_option maxHeartbeats 2000000 in
set_option maxRecDepth 100000 in
theorem cloneG_any (it:TypeInfo) (z:Value) (hi:Tryz.prog.info? 42=some it) (hz0:it.zero=some z) (hz1:it.size=5) (hz2:it.bytes=64) (hzs:z.cells.size=5)
  (ad:Addr) (n c:Nat) (news:List Value) (w:World) (hl:news.length=n*5) (hn:n≤maxLen) (hbig:n*64≤140737488355328) (hc:∀ j u,news[j]? = some u→w.cell? (ad.add j)=some u) (h1:∀ u∈news,u.oneCell'=true) :
  Calls Tryz.prog 55 #[.slice (some ad) n c] w λe w'=>∃ v',e=.returned v'∧w'.ownsRow w.heap.size 42 5 v' n news∧Below w.heap.size w w':=by
 have t22:=Tryz.underlying26;have q22:∀ (w:World) (a:Option Addr) (n c n' c':Nat),(binOp .eql 26 (.slice a n c) (.slice none n' c')).run Tryz.prog w=.ok (.bool a.isNone) w:=λw a n c n' c'=>Lib.run_eql_slice_nil w _ _ a n c n' c' t22
 have u22:∀ w,Sem.run Tryz.prog (underlying 26) w=.ok (TypeDesc.slice 42) w:=run_underlying t22;have A:Aside (∀ j u,news[j]? = some u→w.cell? (ad.add j)=some u):=hc;clear hc
 go_enter Tryz.func55,Tryz.ntmps55
 go_wp2_with (at_builtin;refine wpList_append_own _ rfl _ _ 26 rfl w.heap.size 42 it z 5 64 t22 hi hz0 hz1 hz2 hzs (by decide) _ _ _ rfl (World.ownsRow_made w #[] 0 (Nat.le_refl _) (Nat.zero_le _) (by simp)) ad n c news rfl ?qc1 ?qc2 ?qc3 ?qc4 ?qc5 ?qc6 ?_)
 case qc1=>exact hl
 case qc2 =>
  intro j u hj;exact Lib.cell?_alloc_some _ (A.out j u hj)
 case qc3=>exact h1
 case qc4=>rw [Nat.zero_add];exact hn
 case qc5=>rw [Nat.zero_add];exact hbig
 case qc6=>simp
 intro v' w1 hown hgrow hnil
 go_wp2
 go_ret
 refine ⟨v',rfl,by simpa using hown,?_⟩
 exact ((Below.refl _ w).alloc (Nat.le_refl _) _).grown hgrow (by simp) (by intro k hk;simp [Value.ownBlock] at hk;omega)
set_option maxHeartbeats 2000000 in
set_option maxRecDepth 100000 in
theorem cloneG_nil (n c:Nat) (w:World):Calls Tryz.prog 55 #[.slice none n c] w λe w'=>e=.returned (.slice none 0 0)∧w'=w:=by
 have t22:=Tryz.underlying26;have q22:∀ (w:World) (a:Option Addr) (n c n' c':Nat),(binOp .eql 26 (.slice a n c) (.slice none n' c')).run Tryz.prog w=.ok (.bool a.isNone) w:=λw a n c n' c'=>Lib.run_eql_slice_nil w _ _ a n c n' c' t22
 go_enter Tryz.func55,Tryz.ntmps55
 go_wp2
 go_ret
 exact ⟨rfl,rfl⟩
def nCloneG:NCon:={ f:=55,args:=[q85],e:=42,fs:=kGiv,pre:=λl _=>List.length l≤1000000,F:=λl _=>l }
theorem cloneG_holds:nCloneG.Holds Tryz.prog:=by
 refine ⟨⟨_,Tryz.func55,by kernel_rfl,by kernel_rfl⟩,λp b vs fvs w S hS hpre hvs hfa=>?_⟩
 have hfa:fvs=[]:=hfa;subst hfa;obtain ⟨v,rfl,hv⟩:=q13 hvs;obtain ⟨p,rfl⟩:∃ q:q0c,q=p:=⟨p,rfl⟩;have hpre:p.length≤1000000:=hpre;have hv:(Kd.sl kGiv).Rep w S p v:=hv;obtain ⟨it,z,hi,hz0,hzs,hsz,hby,e1,e2,hone⟩:=q59 (P:=Tryz.prog) (e:=42) (size:=5) (bytes:=64) (by kernel_rfl)
 rcases src_cells hv with ⟨c,rfl,hz⟩ | ⟨ad,c,news,rfl,hl,hc,h1,hrow⟩
 ·refine (cloneG_nil 0 c w).mono ?_
  rintro e w' ⟨rfl,rfl⟩;have hz:p=[]:=hz;subst hz;exact ⟨Below.refl _ _,_,[],rfl,World.ownsRow_nil _ _ _ _,λi x hx=>by cases hx⟩
 ·have hl:news.length=p.length*5:=hl
  refine (cloneG_any it z hi hz0 e1 e2 (by rw [hzs,e1]) ad p.length c news w hl (by unfold maxLen;omega) (by omega) hc h1).mono ?_
  rintro e w' ⟨v',rfl,ho,hb⟩;exact ⟨hb,v',news,rfl,ho,hrow⟩
def cHere:Con:=.of 20 [ckWl,ckCf,q85,ckPt,q36] [q36,q2d,ckErr1] (λp=>q1f p.1∧q0p p.2.1∧q50 p.2.2.1∧List.length p.2.2.2.2≤1000) (λp=>Hea.q4u ⟨p.1.1,p.1.2,p.2.1⟩ p.2.2.1 p.2.2.2.1 p.2.2.2.2)
noncomputable def inlHr:List (Nat×Func):=inlHe++[(53,Tryz.f53),(54,Tryz.f54),(108,Tryz.f108)]
noncomputable def kitHr:Kit:={ cons:=[qbp,cAlike,cCut,cEqS.lent,cOn,cDist],ns:=[nCloneS,nCloneG],os:=[qik],fcs:=[fOdd],inls:=inlHr }
def qe7 (l:q0c):Row:=⟨42,kGiv,l⟩
abbrev bkR:Nat:=39000
def hfHere:Hf:={ L:=30000,F:=42000,upL:=[(45,[2,5,8])],upF:=[],boxL:=[5,8] }
def bkHere (book:q0c) (p:Cod.Pt):List (Nat×Row):=[(bkR,qe7 (book.filter (Hea.q02 p)))]
abbrev liveHr:List (Nat×List Nat):=[(45,[5,35,36])]
def anFarH (book:q0c) (p:Cod.Pt):List (Nat×Ann) :=
 [annX 0 Nat (λst k=>st.hd { live:=[0,1,7],sav:=savK 0 ((42,[0,1])::liveHr),box:=[5,8,30011,30002] } [(8,R.int .i64 k)] [] [(bkR,qe7 book),(hfHere.wr,q44 (Get.rowS hfHere.wr st))] [] none)
  (λ_ k=>k≤book.length∧(book.take k).all (Hea.q02 p)=true)
  (λ_ k=>book.length-k)]
def q46 (book:q0c) (p:Cod.Pt) (k j:Nat) (l:q0c):Prop:=k<j∧j≤book.length∧l.length=book.length∧l.take k=(book.take j).filter (Hea.q02 p)∧l.drop j=book.drop j
def anDelH (book:q0c) (p:Cod.Pt):List (Nat×Ann) :=
 [annX 0 (Nat×Nat×q0c) (λst q=>st.hd { live:=[0,1],sav:=savK 0 liveHr,box:=[5,8,30011,30002] } [(5,R.int .i64 q.1),(6,R.int .i64 q.2.1)] [] [(bkR,qe7 q.2.2),(hfHere.wr,q44 (Get.rowS hfHere.wr st))] [] none)
  (λ_ q=>q46 book p q.1 q.2.1 q.2.2)
  (λ_ q=>book.length-q.2.1)]
def anHr (e:Cod.Ear) (book:q0c) (p:Cod.Pt) (text:List UInt8):Nat→List (Nat×Ann):=λf =>
 bif Nat.beq f 54 then anDelH book p
 else bif Nat.beq f 108 then anFarH book p
 else anHe hfHere (bkHere book p) e (book.filter (Hea.q02 p)) text f
end Go.Proofs.YtfecgebhoondjaaGreatDoor
namespace Go.Proofs.YtfecgebhoondjaaGreatDoor
open Go.RowKit R
abbrev q1y (book:q0c) (e:Cod.Ear) (p_1:Nat×List (List UInt8)) (pt:Cod.Pt):Prop :=
 ((True∧True∧True)∧(e.c=e.c∧True)∧(e.lang=e.lang∧e.ws=e.ws∧True)∧(((List.filter (Hea.q02 pt) book).getD (p_1.1:Int).toNat Cod.noG).1=((List.filter (Hea.q02 pt) book).getD (p_1.1:Int).toNat Cod.noG).1∧((List.filter (Hea.q02 pt) book).getD (p_1.1:Int).toNat Cod.noG).2.1=((List.filter (Hea.q02 pt) book).getD (p_1.1:Int).toNat Cod.noG).2.1∧((List.filter (Hea.q02 pt) book).getD (p_1.1:Int).toNat Cod.noG).2.2.1=((List.filter (Hea.q02 pt) book).getD (p_1.1:Int).toNat Cod.noG).2.2.1∧((List.filter (Hea.q02 pt) book).getD (p_1.1:Int).toNat Cod.noG).2.2.2.1=((List.filter (Hea.q02 pt) book).getD (p_1.1:Int).toNat Cod.noG).2.2.2.1∧((List.filter (Hea.q02 pt) book).getD (p_1.1:Int).toNat Cod.noG).2.2.2.2=((List.filter (Hea.q02 pt) book).getD (p_1.1:Int).toNat Cod.noG).2.2.2.2∧True)∧(True∧True)∧True)
abbrev q3p (book:q0c) (p_1:Nat×List (List UInt8)) (p_3:Nat) (pt:Cod.Pt):Prop :=
 (True∧True∧(p_3:Int)=(p_3:Int)∧(↑[((102:Nat),[(nat_lit 30011,nat_lit 0)].length,[(nat_lit 30011,nat_lit 0)]++[]),((103:Nat),[(nat_lit 30011,nat_lit 0)].length,[(nat_lit 30011,nat_lit 0)]++[]),((104:Nat),[(nat_lit 30011,nat_lit 0)].length,[(nat_lit 30011,nat_lit 0)]++[])].length:Int)=(↑[((102:Nat),[(nat_lit 30011,nat_lit 0)].length,[(nat_lit 30011,nat_lit 0)]++[]),((103:Nat),[(nat_lit 30011,nat_lit 0)].length,[(nat_lit 30011,nat_lit 0)]++[]),((104:Nat),[(nat_lit 30011,nat_lit 0)].length,[(nat_lit 30011,nat_lit 0)]++[])].length:Int)∧(p_3:Int)=(p_3:Int)∧True∧True∧True∧True∧True∧True∧(↑(List.filter (Hea.q02 pt) book).length:Int)=(↑(List.filter (Hea.q02 pt) book).length:Int)∧(p_1.1:Int)=(p_1.1:Int)∧True)
abbrev q9a (p':Nat) (p_3:Nat):Prop :=
 ((p_3:Int)+1=(p':Int)∧True∧True∧(↑[((102:Nat),[(nat_lit 30011,nat_lit 0)].length,[(nat_lit 30011,nat_lit 0)]++[]),((103:Nat),[(nat_lit 30011,nat_lit 0)].length,[(nat_lit 30011,nat_lit 0)]++[]),((104:Nat),[(nat_lit 30011,nat_lit 0)].length,[(nat_lit 30011,nat_lit 0)]++[])].length:Int)=(↑[((102:Nat),[(nat_lit 30011,nat_lit 0)].length,[(nat_lit 30011,nat_lit 0)]++[]),((103:Nat),[(nat_lit 30011,nat_lit 0)].length,[(nat_lit 30011,nat_lit 0)]++[]),((104:Nat),[(nat_lit 30011,nat_lit 0)].length,[(nat_lit 30011,nat_lit 0)]++[])].length:Int)∧True)
abbrev q26 (book:q0c) (p_1:Nat×List (List UInt8)) (p_2:Nat×List (List UInt8)) (pt:Cod.Pt) (w:List (List UInt8)):Prop :=
 (w=w∧p_1.2=p_1.2∧p_2.2=p_2.2∧List.filter (Hea.q02 pt) book=List.filter (Hea.q02 pt) book∧True)
abbrev q7i (book:q0c) (e:Cod.Ear) (p':Nat×List (List UInt8)) (pt:Cod.Pt) (w:List (List UInt8)):Prop :=
 (p'.1≤(List.filter (Hea.q02 pt) book).length∧p'.2.length≤p'.1∧Hea.q0i (Hea.q04 e) e.ws w (List.filter (Hea.q02 pt) book) []=Hea.q0i (Hea.q04 e) e.ws w (List.drop p'.1 (List.filter (Hea.q02 pt) book)) p'.2)
abbrev q7b (book:q0c) (p_1:Nat×List (List UInt8)) (pt:Cod.Pt):Prop :=
 (True∧True∧True∧True∧True∧True∧(↑(List.filter (Hea.q02 pt) book).length:Int)=(↑(List.filter (Hea.q02 pt) book).length:Int)∧(p_1.1:Int)=(p_1.1:Int)∧True)
abbrev qiu (book:q0c) (e:Cod.Ear) (p_1:Nat×List (List UInt8)) (pt:Cod.Pt):Prop :=
 ((True∧True)∧(True∧True∧True)∧(e.c=e.c∧True)∧(e.lang=e.lang∧e.ws=e.ws∧True)∧(((List.filter (Hea.q02 pt) book).getD (p_1.1:Int).toNat Cod.noG).1=((List.filter (Hea.q02 pt) book).getD (p_1.1:Int).toNat Cod.noG).1∧((List.filter (Hea.q02 pt) book).getD (p_1.1:Int).toNat Cod.noG).2.1=((List.filter (Hea.q02 pt) book).getD (p_1.1:Int).toNat Cod.noG).2.1∧((List.filter (Hea.q02 pt) book).getD (p_1.1:Int).toNat Cod.noG).2.2.1=((List.filter (Hea.q02 pt) book).getD (p_1.1:Int).toNat Cod.noG).2.2.1∧((List.filter (Hea.q02 pt) book).getD (p_1.1:Int).toNat Cod.noG).2.2.2.1=((List.filter (Hea.q02 pt) book).getD (p_1.1:Int).toNat Cod.noG).2.2.2.1∧((List.filter (Hea.q02 pt) book).getD (p_1.1:Int).toNat Cod.noG).2.2.2.2=((List.filter (Hea.q02 pt) book).getD (p_1.1:Int).toNat Cod.noG).2.2.2.2∧True)∧True)
abbrev q7g (book:q0c) (p':Nat×List (List UInt8)) (p_1:Nat×List (List UInt8)) (pt:Cod.Pt):Prop :=
 ((p_1.1:Int)+1=(p'.1:Int)∧True∧(↑(List.filter (Hea.q02 pt) book).length:Int)=(↑(List.filter (Hea.q02 pt) book).length:Int)∧True∧True∧True∧True∧True)
abbrev q79 (e:Cod.Ear) (p':Nat) (p_2:Nat×List (List UInt8)) (w:List (List UInt8)):Prop :=
 (p'≤(3:Nat)∧((1:Nat)≤p'→Hea.q33 (Hea.q04 e) p_2.2 w=false)∧((2:Nat)≤p'→Hea.q3g p_2.2 w=false)∧((3:Nat)≤p'→Hea.q3i p_2.2 w=false))
abbrev q8w (book:q0c) (p':Nat×List (List UInt8)) (p_1:Nat×List (List UInt8)) (pt:Cod.Pt) (w:List (List UInt8)):Prop :=
 (w=w∧p_1.2++[((List.filter (Hea.q02 pt) book).getD (p_1.1:Int).toNat Cod.noG).1]=p'.2∧List.filter (Hea.q02 pt) book=List.filter (Hea.q02 pt) book∧True)
abbrev q69 (e:Cod.Ear):Prop :=
 ((True∧True∧True)∧(e.c=e.c∧True)∧(e.lang=e.lang∧e.ws=e.ws∧True)∧True)
abbrev qbu (e:Cod.Ear) (p':Nat×Nat) (p_2:Nat×List (List UInt8)) (w:List (List UInt8)):Prop :=
 (p'.1≤w.length∧p'.2=(Hea.diff (List.take p'.1 p_2.2) (List.take p'.1 w)).length∧((Hea.diff (List.take p'.1 p_2.2) (List.take p'.1 w)).all λ(q:Hea.Str×Hea.Str)=>Hea.q04 e q.1 q.2)=true)
set_option maxRecDepth 100000 in
def q71 (e:Cod.Ear) (book:q0c) (pt:Cod.Pt) (w:List (List UInt8)) (R:List UInt8×Bool×Int):Prop :=
  ∀ (p_1:Nat×List (List UInt8)),p_1.1≤(List.filter (Hea.q02 pt) book).length∧p_1.2.length≤p_1.1∧Hea.q0i (Hea.q04 e) e.ws w (List.filter (Hea.q02 pt) book) []=Hea.q0i (Hea.q04 e) e.ws w (List.drop p_1.1 (List.filter (Hea.q02 pt) book)) p_1.2→bif decide ((p_1.1:Int)<(↑(List.filter (Hea.q02 pt) book).length:Int)) then (0≤(p_1.1:Int)∧(p_1.1:Int)<(↑(List.filter (Hea.q02 pt) book).length:Int))∧(∃ (p':Nat×List (List UInt8)),(p'.1≤((List.filter (Hea.q02 pt) book).getD (p_1.1:Int).toNat Cod.noG).2.1.length∧p'.2=Hea.ownW e.ws (List.take p'.1 ((List.filter (Hea.q02 pt) book).getD (p_1.1:Int).toNat Cod.noG).2.1))∧((0:Int)=(p'.1:Int)∧True∧True∧True∧True∧True∧True∧True∧(↑(List.filter (Hea.q02 pt) book).length:Int)=(↑(List.filter (Hea.q02 pt) book).length:Int)∧(p_1.1:Int)=(p_1.1:Int)∧((List.filter (Hea.q02 pt) book).getD (p_1.1:Int).toNat Cod.noG).2.1=((List.filter (Hea.q02 pt) book).getD (p_1.1:Int).toNat Cod.noG).2.1∧(↑((List.filter (Hea.q02 pt) book).getD (p_1.1:Int).toNat Cod.noG).2.1.length:Int)=(↑((List.filter (Hea.q02 pt) book).getD (p_1.1:Int).toNat Cod.noG).2.1.length:Int)∧True)∧(qiu book e p_1 pt)∧(p'.2=[]∧w=w∧p_1.2=p_1.2∧List.filter (Hea.q02 pt) book=List.filter (Hea.q02 pt) book∧True)∧True∧True∧True∧True∧True∧True∧True)∧∀ (p_2:Nat×List (List UInt8)),p_2.1≤((List.filter (Hea.q02 pt) book).getD (p_1.1:Int).toNat Cod.noG).2.1.length∧p_2.2=Hea.ownW e.ws (List.take p_2.1 ((List.filter (Hea.q02 pt) book).getD (p_1.1:Int).toNat Cod.noG).2.1)→bif decide ((p_2.1:Int)<(↑((List.filter (Hea.q02 pt) book).getD (p_1.1:Int).toNat Cod.noG).2.1.length:Int)) then (0≤(p_2.1:Int)∧(p_2.1:Int)<(↑((List.filter (Hea.q02 pt) book).getD (p_1.1:Int).toNat Cod.noG).2.1.length:Int))∧((0:Int)≤((List.filter (Hea.q02 pt) book).getD (p_1.1:Int).toNat Cod.noG).2.1.getD (p_2.1:Int).toNat (0:Int)∧((List.filter (Hea.q02 pt) book).getD (p_1.1:Int).toNat Cod.noG).2.1.getD (p_2.1:Int).toNat 0<(e.ws.length:Int))∧(p_2.2.length+[e.ws.getD (((List.filter (Hea.q02 pt) book).getD (p_1.1:Int).toNat Cod.noG).2.1.getD (p_2.1:Int).toNat (0:Int)).toNat []].length)*(16:Nat)≤(140737488355328:Nat)∧(zFit ((p_2.1:Int)+1))∧∃ (p':Nat×List (List UInt8)),(p'.1≤((List.filter (Hea.q02 pt) book).getD (p_1.1:Int).toNat Cod.noG).2.1.length∧p'.2=Hea.ownW e.ws (List.take p'.1 ((List.filter (Hea.q02 pt) book).getD (p_1.1:Int).toNat Cod.noG).2.1))∧((List.filter (Hea.q02 pt) book).getD (p_1.1:Int).toNat Cod.noG).2.1.length-p'.1<((List.filter (Hea.q02 pt) book).getD (p_1.1:Int).toNat Cod.noG).2.1.length-p_2.1∧((p_2.1:Int)+1=(p'.1:Int)∧True∧True∧True∧True∧True∧True∧True∧(↑(List.filter (Hea.q02 pt) book).length:Int)=(↑(List.filter (Hea.q02 pt) book).length:Int)∧(p_1.1:Int)=(p_1.1:Int)∧((List.filter (Hea.q02 pt) book).getD (p_1.1:Int).toNat Cod.noG).2.1=((List.filter (Hea.q02 pt) book).getD (p_1.1:Int).toNat Cod.noG).2.1∧(↑((List.filter (Hea.q02 pt) book).getD (p_1.1:Int).toNat Cod.noG).2.1.length:Int)=(↑((List.filter (Hea.q02 pt) book).getD (p_1.1:Int).toNat Cod.noG).2.1.length:Int)∧True)∧(qiu book e p_1 pt)∧(p_2.2++[e.ws.getD (((List.filter (Hea.q02 pt) book).getD (p_1.1:Int).toNat Cod.noG).2.1.getD (p_2.1:Int).toNat (0:Int)).toNat []]=p'.2∧w=w∧p_1.2=p_1.2∧List.filter (Hea.q02 pt) book=List.filter (Hea.q02 pt) book∧True)∧True∧True∧True∧True∧True∧True∧True else (p_2.2.length≤(1000000:Nat)∧w.length≤(1000000:Nat))∧bif p_2.2==w then (((List.filter (Hea.q02 pt) book).getD (p_1.1:Int).toNat Cod.noG).1,false,(0:Int))=R else (∃ (p':Nat),(q79 e p' p_2 w)∧((0:Int)=(p':Int)∧True∧True∧(↑[((102:Nat),[(nat_lit 30011,nat_lit 0)].length,[(nat_lit 30011,nat_lit 0)]++[]),((103:Nat),[(nat_lit 30011,nat_lit 0)].length,[(nat_lit 30011,nat_lit 0)]++[]),((104:Nat),[(nat_lit 30011,nat_lit 0)].length,[(nat_lit 30011,nat_lit 0)]++[])].length:Int)=(↑[((102:Nat),[(nat_lit 30011,nat_lit 0)].length,[(nat_lit 30011,nat_lit 0)]++[]),((103:Nat),[(nat_lit 30011,nat_lit 0)].length,[(nat_lit 30011,nat_lit 0)]++[]),((104:Nat),[(nat_lit 30011,nat_lit 0)].length,[(nat_lit 30011,nat_lit 0)]++[])].length:Int)∧True)∧(q1y book e p_1 pt)∧(q26 book p_1 p_2 pt w)∧True∧True∧(q7b book p_1 pt)∧True∧True∧True∧True)∧∀ (p_3:Nat),p_3≤(3:Nat)∧((1:Nat)≤p_3→Hea.q33 (Hea.q04 e) p_2.2 w=false)∧((2:Nat)≤p_3→Hea.q3g p_2.2 w=false)∧((3:Nat)≤p_3→Hea.q3i p_2.2 w=false)→bif decide ((p_3:Int)<(↑[((102:Nat),[(nat_lit 30011,nat_lit 0)].length,[(nat_lit 30011,nat_lit 0)]++[]),((103:Nat),[(nat_lit 30011,nat_lit 0)].length,[(nat_lit 30011,nat_lit 0)]++[]),((104:Nat),[(nat_lit 30011,nat_lit 0)].length,[(nat_lit 30011,nat_lit 0)]++[])].length:Int)) then (0≤(p_3:Int)∧(p_3:Int)<(↑[((102:Nat),[(nat_lit 30011,nat_lit 0)].length,[(nat_lit 30011,nat_lit 0)]++[]),((103:Nat),[(nat_lit 30011,nat_lit 0)].length,[(nat_lit 30011,nat_lit 0)]++[]),((104:Nat),[(nat_lit 30011,nat_lit 0)].length,[(nat_lit 30011,nat_lit 0)]++[])].length:Int))∧((p_3:Int)=(↑(nat_lit 0):Int)→bif (p_2.2.length:Int) != (w.length:Int) then (zFit ((p_3:Int)+1))∧∃ (p':Nat),(q79 e p' p_2 w)∧(3:Nat)-p'<(3:Nat)-p_3∧(q9a p' p_3)∧(q1y book e p_1 pt)∧(q26 book p_1 p_2 pt w)∧True∧True∧(q7b book p_1 pt)∧True∧True∧True∧True else (∃ (p':Nat×Nat),(qbu e p' p_2 w)∧((0:Int)=(p'.1:Int)∧(0:Int)=(p'.2:Int)∧True∧True∧True∧(w.length:Int)=(w.length:Int)∧True)∧(q1y book e p_1 pt)∧(q26 book p_1 p_2 pt w)∧True∧True∧(q3p book p_1 p_3 pt)∧True∧True∧True∧True)∧∀ (p_4:Nat×Nat),p_4.1≤w.length∧p_4.2=(Hea.diff (List.take p_4.1 p_2.2) (List.take p_4.1 w)).length∧((Hea.diff (List.take p_4.1 p_2.2) (List.take p_4.1 w)).all λ(q:Hea.Str×Hea.Str)=>Hea.q04 e q.1 q.2)=true→bif decide ((p_4.1:Int)<(w.length:Int)) then (0≤(p_4.1:Int)∧(p_4.1:Int)<(w.length:Int))∧(0≤(p_4.1:Int)∧(p_4.1:Int)<(p_2.2.length:Int))∧bif !w.getD (p_4.1:Int).toNat []==p_2.2.getD (p_4.1:Int).toNat [] then (zFit ((p_4.2:Int)+1))∧(0≤(p_4.1:Int)∧(p_4.1:Int)<(p_2.2.length:Int))∧(q0p e.c∧(p_2.2.getD (p_4.1:Int).toNat []).length≤(1000000:Nat)∧(w.getD (p_4.1:Int).toNat []).length≤(1000000:Nat))∧bif !Snd.q0l e.c (p_2.2.getD (p_4.1:Int).toNat []) (w.getD (p_4.1:Int).toNat []) then (zFit ((p_3:Int)+1))∧∃ (p':Nat),(q79 e p' p_2 w)∧(3:Nat)-p'<(3:Nat)-p_3∧(q9a p' p_3)∧(q1y book e p_1 pt)∧(q26 book p_1 p_2 pt w)∧True∧True∧(q7b book p_1 pt)∧True∧True∧True∧True else (zFit ((p_4.1:Int)+1))∧∃ (p':Nat×Nat),(qbu e p' p_2 w)∧w.length-p'.1<w.length-p_4.1∧((p_4.1:Int)+1=(p'.1:Int)∧(p_4.2:Int)+1=(p'.2:Int)∧True∧True∧True∧(w.length:Int)=(w.length:Int)∧True)∧(q1y book e p_1 pt)∧(q26 book p_1 p_2 pt w)∧True∧True∧(q3p book p_1 p_3 pt)∧True∧True∧True∧True else (zFit ((p_4.1:Int)+1))∧∃ (p':Nat×Nat),(qbu e p' p_2 w)∧w.length-p'.1<w.length-p_4.1∧((p_4.1:Int)+1=(p'.1:Int)∧(p_4.2:Int)=(p'.2:Int)∧True∧True∧True∧(w.length:Int)=(w.length:Int)∧True)∧(q1y book e p_1 pt)∧(q26 book p_1 p_2 pt w)∧True∧True∧(q3p book p_1 p_3 pt)∧True∧True∧True∧True else bif (p_4.2:Int)==(1:Int) then (p_1.2.length+[((List.filter (Hea.q02 pt) book).getD (p_1.1:Int).toNat Cod.noG).1].length)*(16:Nat)≤(140737488355328:Nat)∧(zFit ((p_1.1:Int)+1))∧∃ (p':Nat×List (List UInt8)),(q7i book e p' pt w)∧(List.filter (Hea.q02 pt) book).length-p'.1<(List.filter (Hea.q02 pt) book).length-p_1.1∧(q7g book p' p_1 pt)∧(q69 e)∧(q8w book p' p_1 pt w)∧True∧True∧True∧True∧True∧True∧True else (zFit ((p_3:Int)+1))∧∃ (p':Nat),(q79 e p' p_2 w)∧(3:Nat)-p'<(3:Nat)-p_3∧(q9a p' p_3)∧(q1y book e p_1 pt)∧(q26 book p_1 p_2 pt w)∧True∧True∧(q7b book p_1 pt)∧True∧True∧True∧True)∧((p_3:Int)=(↑(nat_lit 1):Int)→(∃ (p':Nat),(p'≤p_2.2.length∧∀ (i:Nat),i<p'→(p_2.2.eraseIdx i==w)=false)∧((0:Int)=(p':Int)∧True∧True∧(p_2.2.length:Int)=(p_2.2.length:Int)∧True)∧(q1y book e p_1 pt)∧(q26 book p_1 p_2 pt w)∧True∧True∧(q3p book p_1 p_3 pt)∧True∧True∧True∧True)∧∀ (p_4:Nat),(p_4≤p_2.2.length∧∀ (i:Nat),i<p_4→(p_2.2.eraseIdx i==w)=false)→bif decide ((p_4:Int)<(p_2.2.length:Int)) then (zFit ((p_4:Int)+1))∧(p_2.2.length≤(1000000:Nat)∧(((p_4:Int)+1=(p_4:Int)+1∧0≤(p_4:Int)∧(p_4:Int)<(p_2.2.length:Int))∧((p_2.2.eraseIdx (p_4:Int).toNat).length≤(1000000:Nat)∧w.length≤(1000000:Nat))∧bif p_2.2.eraseIdx (p_4:Int).toNat==w then (p_1.2.length+[((List.filter (Hea.q02 pt) book).getD (p_1.1:Int).toNat Cod.noG).1].length)*(16:Nat)≤(140737488355328:Nat)∧(zFit ((p_1.1:Int)+1))∧∃ (p':Nat×List (List UInt8)),(q7i book e p' pt w)∧(List.filter (Hea.q02 pt) book).length-p'.1<(List.filter (Hea.q02 pt) book).length-p_1.1∧(q7g book p' p_1 pt)∧(q69 e)∧(q8w book p' p_1 pt w)∧True∧True∧True∧True∧True∧True∧True else (zFit ((p_4:Int)+1))∧∃ (p':Nat),(p'≤p_2.2.length∧∀ (i:Nat),i<p'→(p_2.2.eraseIdx i==w)=false)∧p_2.2.length-p'<p_2.2.length-p_4∧((p_4:Int)+1=(p':Int)∧True∧True∧(p_2.2.length:Int)=(p_2.2.length:Int)∧True)∧(q1y book e p_1 pt)∧(q26 book p_1 p_2 pt w)∧True∧True∧(q3p book p_1 p_3 pt)∧True∧True∧True∧True)∧((p_4:Int)+1=(p_4:Int)+1∧0≤(p_4:Int)∧(p_4:Int)<(p_2.2.length:Int))∧((p_2.2.eraseIdx (p_4:Int).toNat).length≤(1000000:Nat)∧w.length≤(1000000:Nat))∧bif p_2.2.eraseIdx (p_4:Int).toNat==w then (p_1.2.length+[((List.filter (Hea.q02 pt) book).getD (p_1.1:Int).toNat Cod.noG).1].length)*(16:Nat)≤(140737488355328:Nat)∧(zFit ((p_1.1:Int)+1))∧∃ (p':Nat×List (List UInt8)),(q7i book e p' pt w)∧(List.filter (Hea.q02 pt) book).length-p'.1<(List.filter (Hea.q02 pt) book).length-p_1.1∧(q7g book p' p_1 pt)∧(q69 e)∧(q8w book p' p_1 pt w)∧True∧True∧True∧True∧True∧True∧True else (zFit ((p_4:Int)+1))∧∃ (p':Nat),(p'≤p_2.2.length∧∀ (i:Nat),i<p'→(p_2.2.eraseIdx i==w)=false)∧p_2.2.length-p'<p_2.2.length-p_4∧((p_4:Int)+1=(p':Int)∧True∧True∧(p_2.2.length:Int)=(p_2.2.length:Int)∧True)∧(q1y book e p_1 pt)∧(q26 book p_1 p_2 pt w)∧True∧True∧(q3p book p_1 p_3 pt)∧True∧True∧True∧True)∧p_2.2.length≤(1000000:Nat)∧((p_4:Int)+1=(p_4:Int)+1∧0≤(p_4:Int)∧(p_4:Int)<(p_2.2.length:Int))∧((p_2.2.eraseIdx (p_4:Int).toNat).length≤(1000000:Nat)∧w.length≤(1000000:Nat))∧bif p_2.2.eraseIdx (p_4:Int).toNat==w then (p_1.2.length+[((List.filter (Hea.q02 pt) book).getD (p_1.1:Int).toNat Cod.noG).1].length)*(16:Nat)≤(140737488355328:Nat)∧(zFit ((p_1.1:Int)+1))∧∃ (p':Nat×List (List UInt8)),(q7i book e p' pt w)∧(List.filter (Hea.q02 pt) book).length-p'.1<(List.filter (Hea.q02 pt) book).length-p_1.1∧(q7g book p' p_1 pt)∧(q69 e)∧(q8w book p' p_1 pt w)∧True∧True∧True∧True∧True∧True∧True else (zFit ((p_4:Int)+1))∧∃ (p':Nat),(p'≤p_2.2.length∧∀ (i:Nat),i<p'→(p_2.2.eraseIdx i==w)=false)∧p_2.2.length-p'<p_2.2.length-p_4∧((p_4:Int)+1=(p':Int)∧True∧True∧(p_2.2.length:Int)=(p_2.2.length:Int)∧True)∧(q1y book e p_1 pt)∧(q26 book p_1 p_2 pt w)∧True∧True∧(q3p book p_1 p_3 pt)∧True∧True∧True∧True else (zFit ((p_3:Int)+1))∧∃ (p':Nat),(q79 e p' p_2 w)∧(3:Nat)-p'<(3:Nat)-p_3∧(q9a p' p_3)∧(q1y book e p_1 pt)∧(q26 book p_1 p_2 pt w)∧True∧True∧(q7b book p_1 pt)∧True∧True∧True∧True)∧((p_3:Int)=(↑(nat_lit 2):Int)→(zFit ((p_2.2.length:Int)-1))∧(∃ (p':Nat),(p'≤p_2.2.length-(1:Nat)∧∀ (i:Nat),i<p'→(Hea.q0u p_2.2 i==w&&p_2.2.getD i [] != p_2.2.getD (i+(1:Nat)) [])=false)∧((0:Int)=(p':Int)∧True∧True∧(p_2.2.length:Int)-1=(p_2.2.length:Int)-1∧True)∧(q1y book e p_1 pt)∧(q26 book p_1 p_2 pt w)∧True∧True∧(q3p book p_1 p_3 pt)∧True∧True∧True∧True)∧∀ (p_4:Nat),(p_4≤p_2.2.length-(1:Nat)∧∀ (i:Nat),i<p_4→(Hea.q0u p_2.2 i==w&&p_2.2.getD i [] != p_2.2.getD (i+(1:Nat)) [])=false)→bif decide ((p_4:Int)<(p_2.2.length:Int)-1) then p_2.2.length≤(1000000:Nat)∧((zFit ((p_4:Int)+1))∧(0≤(p_4:Int)+1∧(p_4:Int)+1<(p_2.2.length:Int))∧(0≤(p_4:Int)∧(p_4:Int)<(p_2.2.length:Int))∧(0≤(p_4:Int)∧(p_4:Int)<(p_2.2.length:Int))∧(zFit ((p_4:Int)+1))∧bif (p_4:Int).toNat.beq (p_4:Int).toNat then (0≤(p_4:Int)+1∧(p_4:Int)+1<(↑(p_2.2.set (p_4:Int).toNat (p_2.2.getD ((p_4:Int)+1).toNat [])).length:Int))∧bif ((p_4:Int)+1).toNat.beq ((p_4:Int)+1).toNat then ∃ (p':Unit),True∧(True∧True∧(p_4:Int)=(p_4:Int)∧True∧(p_2.2.length:Int)-1=(p_2.2.length:Int)-1∧(p_4:Int)=(p_4:Int)∧True)∧(q1y book e p_1 pt)∧((p_2.2.set (p_4:Int).toNat (p_2.2.getD ((p_4:Int)+1).toNat [])).set ((p_4:Int)+1).toNat (p_2.2.getD (p_4:Int).toNat [])=Hea.q0u p_2.2 (p_4:Int).toNat∧w=w∧p_1.2=p_1.2∧p_2.2=p_2.2∧List.filter (Hea.q02 pt) book=List.filter (Hea.q02 pt) book∧True)∧True∧True∧(q3p book p_1 p_3 pt)∧True∧True∧True∧True else False else False)∧∀ (p_5:Unit),True→((Hea.q0u p_2.2 (p_4:Int).toNat).length≤(1000000:Nat)∧w.length≤(1000000:Nat))∧bif Hea.q0u p_2.2 (p_4:Int).toNat==w then (0≤(p_4:Int)∧(p_4:Int)<(p_2.2.length:Int))∧(zFit ((p_4:Int)+1))∧(0≤(p_4:Int)+1∧(p_4:Int)+1<(p_2.2.length:Int))∧bif !p_2.2.getD (p_4:Int).toNat []==p_2.2.getD ((p_4:Int)+1).toNat [] then (p_1.2.length+[((List.filter (Hea.q02 pt) book).getD (p_1.1:Int).toNat Cod.noG).1].length)*(16:Nat)≤(140737488355328:Nat)∧(zFit ((p_1.1:Int)+1))∧∃ (p':Nat×List (List UInt8)),(q7i book e p' pt w)∧(List.filter (Hea.q02 pt) book).length-p'.1<(List.filter (Hea.q02 pt) book).length-p_1.1∧(q7g book p' p_1 pt)∧(q69 e)∧(q8w book p' p_1 pt w)∧True∧True∧True∧True∧True∧True∧True else (zFit ((p_4:Int)+1))∧∃ (p':Nat),(p'≤p_2.2.length-(1:Nat)∧∀ (i:Nat),i<p'→(Hea.q0u p_2.2 i==w&&p_2.2.getD i [] != p_2.2.getD (i+(1:Nat)) [])=false)∧p_2.2.length-(1:Nat)-p'<p_2.2.length-(1:Nat)-p_4∧((p_4:Int)+1=(p':Int)∧True∧True∧(p_2.2.length:Int)-1=(p_2.2.length:Int)-1∧True)∧(q1y book e p_1 pt)∧(q26 book p_1 p_2 pt w)∧True∧True∧(q3p book p_1 p_3 pt)∧True∧True∧True∧True else (zFit ((p_4:Int)+1))∧∃ (p':Nat),(p'≤p_2.2.length-(1:Nat)∧∀ (i:Nat),i<p'→(Hea.q0u p_2.2 i==w&&p_2.2.getD i [] != p_2.2.getD (i+(1:Nat)) [])=false)∧p_2.2.length-(1:Nat)-p'<p_2.2.length-(1:Nat)-p_4∧((p_4:Int)+1=(p':Int)∧True∧True∧(p_2.2.length:Int)-1=(p_2.2.length:Int)-1∧True)∧(q1y book e p_1 pt)∧(q26 book p_1 p_2 pt w)∧True∧True∧(q3p book p_1 p_3 pt)∧True∧True∧True∧True else (zFit ((p_3:Int)+1))∧∃ (p':Nat),(q79 e p' p_2 w)∧(3:Nat)-p'<(3:Nat)-p_3∧(q9a p' p_3)∧(q1y book e p_1 pt)∧(q26 book p_1 p_2 pt w)∧True∧True∧(q7b book p_1 pt)∧True∧True∧True∧True) else (zFit ((p_1.1:Int)+1))∧∃ (p':Nat×List (List UInt8)),(q7i book e p' pt w)∧(List.filter (Hea.q02 pt) book).length-p'.1<(List.filter (Hea.q02 pt) book).length-p_1.1∧(q7g book p' p_1 pt)∧(q69 e)∧(w=w∧p_1.2=p'.2∧List.filter (Hea.q02 pt) book=List.filter (Hea.q02 pt) book∧True)∧True∧True∧True∧True∧True∧True∧True else bif (p_1.2.length:Int)==(0:Int) then ([],false,(10:Int))=R else bif (p_1.2.length:Int)==(1:Int) then ((0:Int)≤0∧0<(p_1.2.length:Int))∧(p_1.2.getD (nat_lit 0) [],true,(0:Int))=R else ([],false,(8:Int))=R
abbrev qdl (e:Cod.Ear) (pt:Cod.Pt):Prop :=
 ((e.lang=e.lang∧e.ws=e.ws∧True)∧(pt.1=pt.1∧pt.2=pt.2∧True)∧(True∧True∧True)∧(e.c=e.c∧True)∧True)
set_option maxRecDepth 100000 in
def DelR1 (e:Cod.Ear) (book:q0c) (pt:Cod.Pt) (w:List (List UInt8)) (R:List UInt8×Bool×Int):Prop :=
  ∀ (p_1:Nat×Nat×q0c),q46 book pt p_1.1 p_1.2.1 p_1.2.2→bif decide ((p_1.2.1:Int)<(↑(List.length p_1.2.2):Int)) then (0≤(p_1.2.1:Int)∧(p_1.2.1:Int)<(↑(List.length p_1.2.2):Int))∧bif !(List.getD p_1.2.2 (p_1.2.1:Int).toNat Cod.noG).2.2.1 then (zFit ((p_1.2.1:Int)+1))∧∃ (p':Nat×Nat×q0c),q46 book pt p'.1 p'.2.1 p'.2.2∧List.length book-p'.2.1<List.length book-p_1.2.1∧((p_1.1:Int)=(p'.1:Int)∧(p_1.2.1:Int)+1=(p'.2.1:Int)∧True∧True∧True)∧(qdl e pt)∧(p_1.2.2=p'.2.2∧w=w∧True)∧True∧True∧(True∧True∧(e.lang=e.lang∧e.ws=e.ws∧True)∧True)∧True∧True∧True∧True else True∧bif !decide ((250000:Int)<Cod.q2f (List.getD p_1.2.2 (p_1.2.1:Int).toNat Cod.noG).2.2.2 pt) then (0≤(p_1.1:Int)∧(p_1.1:Int)<(↑(List.length p_1.2.2):Int))∧bif (p_1.1:Int).toNat.beq (p_1.1:Int).toNat then (zFit ((p_1.1:Int)+1))∧(zFit ((p_1.2.1:Int)+1))∧∃ (p':Nat×Nat×q0c),q46 book pt p'.1 p'.2.1 p'.2.2∧List.length book-p'.2.1<List.length book-p_1.2.1∧((p_1.1:Int)+1=(p'.1:Int)∧(p_1.2.1:Int)+1=(p'.2.1:Int)∧True∧True∧True)∧(qdl e pt)∧(List.set p_1.2.2 (p_1.1:Int).toNat (List.getD p_1.2.2 (p_1.2.1:Int).toNat Cod.noG)=p'.2.2∧w=w∧True)∧True∧True∧(True∧True∧(e.lang=e.lang∧e.ws=e.ws∧True)∧True)∧True∧True∧True∧True else False else (zFit ((p_1.2.1:Int)+1))∧∃ (p':Nat×Nat×q0c),q46 book pt p'.1 p'.2.1 p'.2.2∧List.length book-p'.2.1<List.length book-p_1.2.1∧((p_1.1:Int)=(p'.1:Int)∧(p_1.2.1:Int)+1=(p'.2.1:Int)∧True∧True∧True)∧(qdl e pt)∧(p_1.2.2=p'.2.2∧w=w∧True)∧True∧True∧(True∧True∧(e.lang=e.lang∧e.ws=e.ws∧True)∧True)∧True∧True∧True∧True else (0≤(p_1.1:Int)∧(p_1.1:Int)<(↑(List.length p_1.2.2):Int))∧(0≤(p_1.1:Int)∧(p_1.1:Int)≤(↑(List.take (p_1.1:Int).toNat p_1.2.2++List.replicate (List.length p_1.2.2-(p_1.1:Int).toNat) Cod.noG).length:Int))∧(∃ (p':Nat×List (List UInt8)),(p'.1≤(List.filter (Hea.q02 pt) book).length∧p'.2.length≤p'.1∧Hea.q0i (Hea.q04 e) e.ws w (List.filter (Hea.q02 pt) book) []=Hea.q0i (Hea.q04 e) e.ws w (List.drop p'.1 (List.filter (Hea.q02 pt) book)) p'.2)∧((0:Int)=(p'.1:Int)∧True∧(↑(List.take (p_1.1:Int).toNat (List.take (p_1.1:Int).toNat p_1.2.2++List.replicate (List.length p_1.2.2-(p_1.1:Int).toNat) Cod.noG)).length:Int)=(↑(List.filter (Hea.q02 pt) book).length:Int)∧True∧True∧True∧True∧True)∧((True∧True∧True)∧(e.c=e.c∧True)∧(e.lang=e.lang∧e.ws=e.ws∧True)∧True)∧(w=w∧p'.2=[]∧List.take (p_1.1:Int).toNat (List.take (p_1.1:Int).toNat p_1.2.2++List.replicate (List.length p_1.2.2-(p_1.1:Int).toNat) Cod.noG)=List.filter (Hea.q02 pt) book∧True)∧True∧True∧True∧True∧True∧True∧True)∧q71 e book pt w (R)
abbrev qdv (e:Cod.Ear) (pt:Cod.Pt):Prop :=
 ((e.lang=e.lang∧e.ws=e.ws∧True)∧(pt.1=pt.1∧pt.2=pt.2∧True)∧(True∧True∧True)∧(e.c=e.c∧True)∧True)
set_option maxRecDepth 100000 in
def DelR2 (e:Cod.Ear) (book:q0c) (pt:Cod.Pt) (w:List (List UInt8)) (R:List UInt8×Bool×Int):Prop :=
  ∀ (p_1:Nat×Nat×q0c),q46 book pt p_1.1 p_1.2.1 p_1.2.2→bif decide ((p_1.2.1:Int)<(↑(List.length p_1.2.2):Int)) then (0≤(p_1.2.1:Int)∧(p_1.2.1:Int)<(↑(List.length p_1.2.2):Int))∧bif !(List.getD p_1.2.2 (p_1.2.1:Int).toNat Cod.noG).2.2.1 then (zFit ((p_1.2.1:Int)+1))∧∃ (p':Nat×Nat×q0c),q46 book pt p'.1 p'.2.1 p'.2.2∧List.length book-p'.2.1<List.length book-p_1.2.1∧((p_1.1:Int)=(p'.1:Int)∧(p_1.2.1:Int)+1=(p'.2.1:Int)∧True∧True∧True)∧(qdv e pt)∧(p_1.2.2=p'.2.2∧w=w∧True)∧True∧True∧(True∧True∧True∧True)∧True∧True∧True∧True else True∧bif !decide ((250000:Int)<Cod.q2f (List.getD p_1.2.2 (p_1.2.1:Int).toNat Cod.noG).2.2.2 pt) then (0≤(p_1.1:Int)∧(p_1.1:Int)<(↑(List.length p_1.2.2):Int))∧bif (p_1.1:Int).toNat.beq (p_1.1:Int).toNat then (zFit ((p_1.1:Int)+1))∧(zFit ((p_1.2.1:Int)+1))∧∃ (p':Nat×Nat×q0c),q46 book pt p'.1 p'.2.1 p'.2.2∧List.length book-p'.2.1<List.length book-p_1.2.1∧((p_1.1:Int)+1=(p'.1:Int)∧(p_1.2.1:Int)+1=(p'.2.1:Int)∧True∧True∧True)∧(qdv e pt)∧(List.set p_1.2.2 (p_1.1:Int).toNat (List.getD p_1.2.2 (p_1.2.1:Int).toNat Cod.noG)=p'.2.2∧w=w∧True)∧True∧True∧(True∧True∧True∧True)∧True∧True∧True∧True else False else (zFit ((p_1.2.1:Int)+1))∧∃ (p':Nat×Nat×q0c),q46 book pt p'.1 p'.2.1 p'.2.2∧List.length book-p'.2.1<List.length book-p_1.2.1∧((p_1.1:Int)=(p'.1:Int)∧(p_1.2.1:Int)+1=(p'.2.1:Int)∧True∧True∧True)∧(qdv e pt)∧(p_1.2.2=p'.2.2∧w=w∧True)∧True∧True∧(True∧True∧True∧True)∧True∧True∧True∧True else (0≤(p_1.1:Int)∧(p_1.1:Int)<(↑(List.length p_1.2.2):Int))∧(0≤(p_1.1:Int)∧(p_1.1:Int)≤(↑(List.take (p_1.1:Int).toNat p_1.2.2++List.replicate (List.length p_1.2.2-(p_1.1:Int).toNat) Cod.noG).length:Int))∧(∃ (p':Nat×List (List UInt8)),(p'.1≤(List.filter (Hea.q02 pt) book).length∧p'.2.length≤p'.1∧Hea.q0i (Hea.q04 e) e.ws w (List.filter (Hea.q02 pt) book) []=Hea.q0i (Hea.q04 e) e.ws w (List.drop p'.1 (List.filter (Hea.q02 pt) book)) p'.2)∧((0:Int)=(p'.1:Int)∧True∧(↑(List.take (p_1.1:Int).toNat (List.take (p_1.1:Int).toNat p_1.2.2++List.replicate (List.length p_1.2.2-(p_1.1:Int).toNat) Cod.noG)).length:Int)=(↑(List.filter (Hea.q02 pt) book).length:Int)∧True∧True∧True∧True∧True)∧((True∧True∧True)∧(e.c=e.c∧True)∧(e.lang=e.lang∧e.ws=e.ws∧True)∧True)∧(w=w∧p'.2=[]∧List.take (p_1.1:Int).toNat (List.take (p_1.1:Int).toNat p_1.2.2++List.replicate (List.length p_1.2.2-(p_1.1:Int).toNat) Cod.noG)=List.filter (Hea.q02 pt) book∧True)∧True∧True∧True∧True∧True∧True∧True)∧q71 e book pt w (R)
abbrev qj9 (book:q0c) (e:Cod.Ear) (p_1:Nat) (pt:Cod.Pt) (w:List (List UInt8)):Prop :=
 (∃ (p':Nat×Nat×q0c),q46 book pt p'.1 p'.2.1 p'.2.2∧((p_1:Int)=(p'.1:Int)∧(p_1:Int)+1=(p'.2.1:Int)∧True∧True∧True)∧((e.lang=e.lang∧e.ws=e.ws∧True)∧(pt.1=pt.1∧pt.2=pt.2∧True)∧(True∧True∧True)∧(e.c=e.c∧True)∧True)∧(book=p'.2.2∧w=w∧True)∧True∧True∧(True∧True∧(e.lang=e.lang∧e.ws=e.ws∧True)∧True)∧True∧True∧True∧True)
set_option maxRecDepth 100000 in
def FarR1 (e:Cod.Ear) (book:q0c) (pt:Cod.Pt) (w:List (List UInt8)) (R:List UInt8×Bool×Int):Prop :=
  (∃ (p':Nat),(p'≤List.length book∧(List.take p' book).all (Hea.q02 pt)=true)∧((0:Int)=(p':Int)∧True∧True∧(↑(List.length book):Int)=(↑(List.length book):Int)∧True)∧((e.lang=e.lang∧e.ws=e.ws∧True)∧(pt.1=pt.1∧pt.2=pt.2∧True)∧(True∧True∧True)∧(e.c=e.c∧True)∧True)∧(book=book∧w=w∧True)∧True∧True∧(True∧True∧True∧True∧(e.lang=e.lang∧e.ws=e.ws∧True)∧True)∧True∧True∧True∧True)∧∀ (p_1:Nat),p_1≤List.length book∧(List.take p_1 book).all (Hea.q02 pt)=true→bif decide ((p_1:Int)<(↑(List.length book):Int)) then (0≤(p_1:Int)∧(p_1:Int)<(↑(List.length book):Int))∧bif !(List.getD book (p_1:Int).toNat Cod.noG).2.2.1 then (zFit ((p_1:Int)+1))∧(qj9 book e p_1 pt w)∧DelR1 e book pt w (R) else True∧bif decide ((250000:Int)<Cod.q2f (List.getD book (p_1:Int).toNat Cod.noG).2.2.2 pt) then (zFit ((p_1:Int)+1))∧(qj9 book e p_1 pt w)∧DelR1 e book pt w (R) else (zFit ((p_1:Int)+1))∧∃ (p':Nat),(p'≤List.length book∧(List.take p' book).all (Hea.q02 pt)=true)∧List.length book-p'<List.length book-p_1∧((p_1:Int)+1=(p':Int)∧True∧True∧(↑(List.length book):Int)=(↑(List.length book):Int)∧True)∧((e.lang=e.lang∧e.ws=e.ws∧True)∧(pt.1=pt.1∧pt.2=pt.2∧True)∧(True∧True∧True)∧(e.c=e.c∧True)∧True)∧(book=book∧w=w∧True)∧True∧True∧(True∧True∧True∧True∧(e.lang=e.lang∧e.ws=e.ws∧True)∧True)∧True∧True∧True∧True else (∃ (p':Nat×List (List UInt8)),(p'.1≤(List.filter (Hea.q02 pt) book).length∧p'.2.length≤p'.1∧Hea.q0i (Hea.q04 e) e.ws w (List.filter (Hea.q02 pt) book) []=Hea.q0i (Hea.q04 e) e.ws w (List.drop p'.1 (List.filter (Hea.q02 pt) book)) p'.2)∧((0:Int)=(p'.1:Int)∧True∧(↑(List.length book):Int)=(↑(List.filter (Hea.q02 pt) book).length:Int)∧True∧True∧True∧True∧True)∧((True∧True∧True)∧(e.c=e.c∧True)∧(e.lang=e.lang∧e.ws=e.ws∧True)∧True)∧(w=w∧p'.2=[]∧book=List.filter (Hea.q02 pt) book∧True)∧True∧True∧True∧True∧True∧True∧True)∧q71 e book pt w (R)
abbrev qj3 (book:q0c) (e:Cod.Ear) (p_1:Nat) (pt:Cod.Pt) (w:List (List UInt8)):Prop :=
 (∃ (p':Nat×Nat×q0c),q46 book pt p'.1 p'.2.1 p'.2.2∧((p_1:Int)=(p'.1:Int)∧(p_1:Int)+1=(p'.2.1:Int)∧True∧True∧True)∧((e.lang=e.lang∧e.ws=e.ws∧True)∧(pt.1=pt.1∧pt.2=pt.2∧True)∧(True∧True∧True)∧(e.c=e.c∧True)∧True)∧(book=p'.2.2∧w=w∧True)∧True∧True∧(True∧True∧True∧True)∧True∧True∧True∧True)
set_option maxRecDepth 100000 in
def FarR2 (e:Cod.Ear) (book:q0c) (pt:Cod.Pt) (w:List (List UInt8)) (R:List UInt8×Bool×Int):Prop :=
  (∃ (p':Nat),(p'≤List.length book∧(List.take p' book).all (Hea.q02 pt)=true)∧((0:Int)=(p':Int)∧True∧True∧(↑(List.length book):Int)=(↑(List.length book):Int)∧True)∧((e.lang=e.lang∧e.ws=e.ws∧True)∧(pt.1=pt.1∧pt.2=pt.2∧True)∧(True∧True∧True)∧(e.c=e.c∧True)∧True)∧(book=book∧w=w∧True)∧True∧True∧(True∧True∧True∧True∧True∧True)∧True∧True∧True∧True)∧∀ (p_1:Nat),p_1≤List.length book∧(List.take p_1 book).all (Hea.q02 pt)=true→bif decide ((p_1:Int)<(↑(List.length book):Int)) then (0≤(p_1:Int)∧(p_1:Int)<(↑(List.length book):Int))∧bif !(List.getD book (p_1:Int).toNat Cod.noG).2.2.1 then (zFit ((p_1:Int)+1))∧(qj3 book e p_1 pt w)∧DelR2 e book pt w (R) else True∧bif decide ((250000:Int)<Cod.q2f (List.getD book (p_1:Int).toNat Cod.noG).2.2.2 pt) then (zFit ((p_1:Int)+1))∧(qj3 book e p_1 pt w)∧DelR2 e book pt w (R) else (zFit ((p_1:Int)+1))∧∃ (p':Nat),(p'≤List.length book∧(List.take p' book).all (Hea.q02 pt)=true)∧List.length book-p'<List.length book-p_1∧((p_1:Int)+1=(p':Int)∧True∧True∧(↑(List.length book):Int)=(↑(List.length book):Int)∧True)∧((e.lang=e.lang∧e.ws=e.ws∧True)∧(pt.1=pt.1∧pt.2=pt.2∧True)∧(True∧True∧True)∧(e.c=e.c∧True)∧True)∧(book=book∧w=w∧True)∧True∧True∧(True∧True∧True∧True∧True∧True)∧True∧True∧True∧True else (∃ (p':Nat×List (List UInt8)),(p'.1≤(List.filter (Hea.q02 pt) book).length∧p'.2.length≤p'.1∧Hea.q0i (Hea.q04 e) e.ws w (List.filter (Hea.q02 pt) book) []=Hea.q0i (Hea.q04 e) e.ws w (List.drop p'.1 (List.filter (Hea.q02 pt) book)) p'.2)∧((0:Int)=(p'.1:Int)∧True∧(↑(List.length book):Int)=(↑(List.filter (Hea.q02 pt) book).length:Int)∧True∧True∧True∧True∧True)∧((True∧True∧True)∧(e.c=e.c∧True)∧(e.lang=e.lang∧e.ws=e.ws∧True)∧True)∧(w=w∧p'.2=[]∧book=List.filter (Hea.q02 pt) book∧True)∧True∧True∧True∧True∧True∧True∧True)∧q71 e book pt w (R)
theorem findR_ok {e:Cod.Ear} {book:q0c} {pt:Cod.Pt} {w:List (List UInt8)} {R:List UInt8×Bool×Int} (hp:e.proper book=true) (hC:q0p e.c) (hW:∀ s∈e.ws,s.length≤1000000) (hw:w.length≤5) (hwl:∀ s∈w,s.length≤1000000) (hB:book.length≤1000000)
  (hR:R=Hea.q0i (Hea.q04 e) e.ws w (book.filter (Hea.q02 pt)) []):q71 e book pt w R:=by
 unfold q71
 delta q1y q3p q9a q26 q7i q7b qiu q7g q79 q8w q69 qbu zFit
 simp only [true_and,and_true];exact (qjn e (book.filter (Hea.q02 pt)) w R _ rfl (Hea.ql2 hp _) hC hW hw hwl (Nat.le_trans (List.length_filter_le _ _) hB) hR).2
theorem del_step {book:q0c} {pt:Cod.Pt} {k j:Nat} {l:q0c} (h:q46 book pt k j l) (hj:j<book.length):l.getD j Cod.noG=book.getD j Cod.noG∧(Hea.q02 pt (l.getD j Cod.noG)=false→q46 book pt k (j+1) l)∧(Hea.q02 pt (l.getD j Cod.noG)=true→q46 book pt (k+1) (j+1) (l.set k (l.getD j Cod.noG))):=by
 obtain ⟨h1,h2,h3,h4,h5⟩:=h;have hg:l.getD j Cod.noG=book.getD j Cod.noG:=by
  have:=congrArg (λz=>List.getD z 0 Cod.noG) h5
  simpa using this
 have hdrop:l.drop (j+1)=book.drop (j+1):=by
  have:=congrArg (List.drop 1) h5
  rwa [List.drop_drop,List.drop_drop] at this
 refine ⟨hg,λhn=>?_,λhn=>?_⟩
 ·refine ⟨by omega,hj,h3,?_,hdrop⟩
  rw [Snd.q1x book Cod.noG j hj,List.filter_append,← hg,List.filter_cons_of_neg (by rw [hn];decide),List.filter_nil,List.append_nil,h4]
 ·refine ⟨by omega,hj,by rw [List.length_set];exact h3,?_,?_⟩
  ·rw [Snd.q1x book Cod.noG j hj,List.filter_append,← hg,List.filter_cons_of_pos hn,List.filter_nil,← h4,Snd.q1x (l.set k (l.getD j Cod.noG)) Cod.noG k (by rw [List.length_set];omega),List.take_set_of_le (Nat.le_refl _)]
   congr 2
   rw [List.getD_eq_getElem?_getD (l:=l.set k _),List.getElem?_set_self (by omega)];rfl
  ·rw [List.drop_set_of_lt (by omega),hdrop]
theorem del1_ok {e:Cod.Ear} {book:q0c} {pt:Cod.Pt} {w:List (List UInt8)} {R:List UInt8×Bool×Int} (hb:book.length≤1000000) (hF:q71 e book pt w R):DelR1 e book pt w R:=by
 unfold DelR1
 delta qdl zFit
 simp only [true_and,and_true];rintro ⟨k,j,l⟩ hd;have hd:q46 book pt k j l:=hd;obtain ⟨h1,h2,h3,h4,h5⟩:=hd;dsimp only;have hti:((k:Int).toNat)=k:=rfl;have htj:((j:Int).toNat)=j:=rfl;simp only [hti,htj];refine bifP (λhb2=>?_) λhb2=>?_
 ·have hj:j<book.length:=by have:=of_decide_eq_true hb2;omega
  obtain ⟨hg,hst0,hst1⟩:=del_step ⟨h1,h2,h3,h4,h5⟩ hj;refine ⟨⟨by omega,by omega⟩,bifP (λhp=>?_) λhp=>bifP (λhq=>?_) λhq=>?_⟩
  ·refine ⟨⟨by omega,by omega⟩,(k,j+1,l),hst0 ?_,by show book.length-(j+1)<book.length-j;omega,⟨rfl,by push_cast;rfl⟩,rfl⟩
   unfold Hea.q02;rw [show (l.getD j Cod.noG).2.2.1=false by simpa using hp];rfl
  ·have hn:Hea.q02 pt (l.getD j Cod.noG)=true:=by
    unfold Hea.q02 Cod.ptOf;rw [show (l.getD j Cod.noG).2.2.1=true by simpa using hp,decide_eq_true (p:=Cod.q2f (l.getD j Cod.noG).2.2.2 pt≤250000) (by
     have:decide (250000<Cod.q2f (l.getD j Cod.noG).2.2.2 pt)=false:=by simpa using hq
     have:=of_decide_eq_false this;omega)];rfl
   refine ⟨⟨by omega,by omega⟩,?_⟩
   rw [show k.beq k=true from Nat.beq_refl k,cond_true];exact ⟨⟨by omega,by omega⟩,⟨by omega,by omega⟩,(k+1,j+1,l.set k (l.getD j Cod.noG)),hst1 hn,by show book.length-(j+1)<book.length-j;omega,⟨by push_cast;rfl,by push_cast;rfl⟩,rfl⟩
  ·refine ⟨⟨by omega,by omega⟩,(k,j+1,l),hst0 ?_,by show book.length-(j+1)<book.length-j;omega,⟨rfl,by push_cast;rfl⟩,rfl⟩
   unfold Hea.q02 Cod.ptOf;have:decide (250000<Cod.q2f (l.getD j Cod.noG).2.2.2 pt)=true:=by simpa using hq
   rw [decide_eq_false (p:=Cod.q2f (l.getD j Cod.noG).2.2.2 pt≤250000) (by have:=of_decide_eq_true this;omega),Bool.and_false]
 ·have hle:l.length≤j:=by have:=of_decide_eq_false hb2;omega
  have hfl:book.filter (Hea.q02 pt)=l.take k:=by rw [h4,List.take_of_length_le (by omega)]
  have hlen:(l.take k++List.replicate (l.length-k) Cod.noG).length=l.length:=by rw [List.length_append,List.length_take,List.length_replicate];omega
  have htk:(l.take k++List.replicate (l.length-k) Cod.noG).take k=l.take k:=by rw [List.take_append_of_le_length (by rw [List.length_take];omega),List.take_take,Nat.min_self]
  refine ⟨⟨by omega,by omega⟩,⟨by omega,by rw [hlen];omega⟩,⟨(0,[]),⟨Nat.zero_le _,Nat.le_refl _,rfl⟩,⟨rfl,by rw [htk,hfl]⟩,rfl,by rw [htk,hfl]⟩,hF⟩
theorem del2_ok {e:Cod.Ear} {book:q0c} {pt:Cod.Pt} {w:List (List UInt8)} {R:List UInt8×Bool×Int} (hb:book.length≤1000000) (hF:q71 e book pt w R):DelR2 e book pt w R:=by
 unfold DelR2
 delta qdv zFit
 simp only [true_and,and_true];rintro ⟨k,j,l⟩ hd;have hd:q46 book pt k j l:=hd;obtain ⟨h1,h2,h3,h4,h5⟩:=hd;dsimp only;have hti:((k:Int).toNat)=k:=rfl;have htj:((j:Int).toNat)=j:=rfl;simp only [hti,htj];refine bifP (λhb2=>?_) λhb2=>?_
 ·have hj:j<book.length:=by have:=of_decide_eq_true hb2;omega
  obtain ⟨hg,hst0,hst1⟩:=del_step ⟨h1,h2,h3,h4,h5⟩ hj;refine ⟨⟨by omega,by omega⟩,bifP (λhp=>?_) λhp=>bifP (λhq=>?_) λhq=>?_⟩
  ·refine ⟨⟨by omega,by omega⟩,(k,j+1,l),hst0 ?_,by show book.length-(j+1)<book.length-j;omega,⟨rfl,by push_cast;rfl⟩,rfl⟩
   unfold Hea.q02;rw [show (l.getD j Cod.noG).2.2.1=false by simpa using hp];rfl
  ·have hn:Hea.q02 pt (l.getD j Cod.noG)=true:=by
    unfold Hea.q02 Cod.ptOf;rw [show (l.getD j Cod.noG).2.2.1=true by simpa using hp,decide_eq_true (p:=Cod.q2f (l.getD j Cod.noG).2.2.2 pt≤250000) (by
     have:decide (250000<Cod.q2f (l.getD j Cod.noG).2.2.2 pt)=false:=by simpa using hq
     have:=of_decide_eq_false this;omega)];rfl
   refine ⟨⟨by omega,by omega⟩,?_⟩
   rw [show k.beq k=true from Nat.beq_refl k,cond_true];exact ⟨⟨by omega,by omega⟩,⟨by omega,by omega⟩,(k+1,j+1,l.set k (l.getD j Cod.noG)),hst1 hn,by show book.length-(j+1)<book.length-j;omega,⟨by push_cast;rfl,by push_cast;rfl⟩,rfl⟩
  ·refine ⟨⟨by omega,by omega⟩,(k,j+1,l),hst0 ?_,by show book.length-(j+1)<book.length-j;omega,⟨rfl,by push_cast;rfl⟩,rfl⟩
   unfold Hea.q02 Cod.ptOf;have:decide (250000<Cod.q2f (l.getD j Cod.noG).2.2.2 pt)=true:=by simpa using hq
   rw [decide_eq_false (p:=Cod.q2f (l.getD j Cod.noG).2.2.2 pt≤250000) (by have:=of_decide_eq_true this;omega),Bool.and_false]
 ·have hle:l.length≤j:=by have:=of_decide_eq_false hb2;omega
  have hfl:book.filter (Hea.q02 pt)=l.take k:=by rw [h4,List.take_of_length_le (by omega)]
  have hlen:(l.take k++List.replicate (l.length-k) Cod.noG).length=l.length:=by rw [List.length_append,List.length_take,List.length_replicate];omega
  have htk:(l.take k++List.replicate (l.length-k) Cod.noG).take k=l.take k:=by rw [List.take_append_of_le_length (by rw [List.length_take];omega),List.take_take,Nat.min_self]
  refine ⟨⟨by omega,by omega⟩,⟨by omega,by rw [hlen];omega⟩,⟨(0,[]),⟨Nat.zero_le _,Nat.le_refl _,rfl⟩,⟨rfl,by rw [htk,hfl]⟩,rfl,by rw [htk,hfl]⟩,hF⟩
theorem far1_ok {e:Cod.Ear} {book:q0c} {pt:Cod.Pt} {w:List (List UInt8)} {R:List UInt8×Bool×Int} (hb:book.length≤1000000) (hF:q71 e book pt w R) (hR:R=Hea.q0i (Hea.q04 e) e.ws w (book.filter (Hea.q02 pt)) []):FarR1 e book pt w R:=by
 unfold FarR1
 delta qj9 zFit
 simp only [true_and,and_true];refine ⟨⟨0,⟨Nat.zero_le _,rfl⟩,rfl⟩,?_⟩;rintro k ⟨hk,ha⟩;have hti:((k:Int).toNat)=k:=rfl;simp only [hti];refine bifP (λhb2=>?_) λhb2=>?_
 ·have hlt:k<book.length:=by have:=of_decide_eq_true hb2;omega
  have hst:∀ h:Hea.q02 pt (book.getD k Cod.noG)=false,q46 book pt k (k+1) book:=λh=>by
   refine ⟨by omega,hlt,rfl,?_,rfl⟩
   rw [Snd.q1x book Cod.noG k hlt,List.filter_append,List.filter_cons_of_neg (by rw [h];decide),List.filter_nil,List.append_nil,List.filter_eq_self.2 (List.all_eq_true.1 ha)]
  refine ⟨⟨by omega,by omega⟩,bifP (λhp=>?_) λhp=>bifP (λhd=>?_) λhd=>?_⟩
  ·refine ⟨⟨by omega,by omega⟩,⟨(k,k+1,book),hst ?_,⟨rfl,by push_cast;rfl⟩,rfl⟩,del1_ok hb hF⟩
   unfold Hea.q02;rw [show (book.getD k Cod.noG).2.2.1=false by simpa using hp];rfl
  ·refine ⟨⟨by omega,by omega⟩,⟨(k,k+1,book),hst ?_,⟨rfl,by push_cast;rfl⟩,rfl⟩,del1_ok hb hF⟩
   unfold Hea.q02 Cod.ptOf;rw [decide_eq_false (p:=Cod.q2f (book.getD k Cod.noG).2.2.2 pt≤250000) (by have:=of_decide_eq_true hd;omega),Bool.and_false]
  ·refine ⟨⟨by omega,by omega⟩,k+1,⟨hlt,?_⟩,by omega,by push_cast;rfl⟩
   rw [Snd.q3r book Cod.noG _ k hlt,ha,Bool.true_and];unfold Hea.q02 Cod.ptOf;rw [show (book.getD k Cod.noG).2.2.1=true by simpa using hp,decide_eq_true (p:=Cod.q2f (book.getD k Cod.noG).2.2.2 pt≤250000) (by have:=of_decide_eq_false hd;omega)];rfl
 ·have hle:book.length≤k:=by have:=of_decide_eq_false hb2;omega
  rw [Snd.q5p book _ k hle] at ha;have hfl:book.filter (Hea.q02 pt)=book:=List.filter_eq_self.2 (List.all_eq_true.1 ha);refine ⟨⟨(0,[]),⟨Nat.zero_le _,Nat.le_refl _,rfl⟩,⟨rfl,by rw [hfl]⟩,rfl,hfl.symm⟩,hF⟩
theorem far2_ok {e:Cod.Ear} {book:q0c} {pt:Cod.Pt} {w:List (List UInt8)} {R:List UInt8×Bool×Int} (hb:book.length≤1000000) (hF:q71 e book pt w R) (hR:R=Hea.q0i (Hea.q04 e) e.ws w (book.filter (Hea.q02 pt)) []):FarR2 e book pt w R:=by
 unfold FarR2
 delta qj3 zFit
 simp only [true_and,and_true];refine ⟨⟨0,⟨Nat.zero_le _,rfl⟩,rfl⟩,?_⟩;rintro k ⟨hk,ha⟩;have hti:((k:Int).toNat)=k:=rfl;simp only [hti];refine bifP (λhb2=>?_) λhb2=>?_
 ·have hlt:k<book.length:=by have:=of_decide_eq_true hb2;omega
  have hst:∀ h:Hea.q02 pt (book.getD k Cod.noG)=false,q46 book pt k (k+1) book:=λh=>by
   refine ⟨by omega,hlt,rfl,?_,rfl⟩
   rw [Snd.q1x book Cod.noG k hlt,List.filter_append,List.filter_cons_of_neg (by rw [h];decide),List.filter_nil,List.append_nil,List.filter_eq_self.2 (List.all_eq_true.1 ha)]
  refine ⟨⟨by omega,by omega⟩,bifP (λhp=>?_) λhp=>bifP (λhd=>?_) λhd=>?_⟩
  ·refine ⟨⟨by omega,by omega⟩,⟨(k,k+1,book),hst ?_,⟨rfl,by push_cast;rfl⟩,rfl⟩,del2_ok hb hF⟩
   unfold Hea.q02;rw [show (book.getD k Cod.noG).2.2.1=false by simpa using hp];rfl
  ·refine ⟨⟨by omega,by omega⟩,⟨(k,k+1,book),hst ?_,⟨rfl,by push_cast;rfl⟩,rfl⟩,del2_ok hb hF⟩
   unfold Hea.q02 Cod.ptOf;rw [decide_eq_false (p:=Cod.q2f (book.getD k Cod.noG).2.2.2 pt≤250000) (by have:=of_decide_eq_true hd;omega),Bool.and_false]
  ·refine ⟨⟨by omega,by omega⟩,k+1,⟨hlt,?_⟩,by omega,by push_cast;rfl⟩
   rw [Snd.q3r book Cod.noG _ k hlt,ha,Bool.true_and];unfold Hea.q02 Cod.ptOf;rw [show (book.getD k Cod.noG).2.2.1=true by simpa using hp,decide_eq_true (p:=Cod.q2f (book.getD k Cod.noG).2.2.2 pt≤250000) (by have:=of_decide_eq_false hd;omega)];rfl
 ·have hle:book.length≤k:=by have:=of_decide_eq_false hb2;omega
  rw [Snd.q5p book _ k hle] at ha;have hfl:book.filter (Hea.q02 pt)=book:=List.filter_eq_self.2 (List.all_eq_true.1 ha);refine ⟨⟨(0,[]),⟨Nat.zero_le _,Nat.le_refl _,rfl⟩,⟨rfl,by rw [hfl]⟩,rfl,hfl.symm⟩,hF⟩
set_option maxRecDepth 100000 in
theorem here_vc (e:Cod.Ear) (book:q0c) (pt:Cod.Pt) (text:List UInt8) (h:cHere.pre ((e.lang,e.ws),e.c,book,pt,text)) :
  (q1f (e.lang,e.ws)∧q0p e.c∧q50 book)∧bif !e.proper book then ([],false,(1:Int))=Hea.q4u e book pt text else True∧bif !Cod.onB pt then ([],false,(1:Int)) =
  Hea.q4u e book pt text else (∃ (p':Bool×List UInt8×List (List UInt8)),q45 text p'.1 p'.2.1 p'.2.2∧(true=p'.1∧True∧True∧True)∧((text=p'.2.1∧True)∧(True∧True ∧
  True)∧(e.c=e.c∧True)∧(True∧True)∧(false=false∧True)∧(True∧True)∧(e.lang=e.lang∧e.ws=e.ws∧True)∧(pt.1=pt.1∧pt.2=pt.2∧True)∧True)∧(p'.2.2=[] ∧
  True)∧True∧True∧(True∧True∧True∧book=book∧True∧True∧True)∧True∧True∧True∧True∧(True∧True∧True∧True)∧True)∧∀ (p:Bool×List UInt8×List (List
  UInt8)),q45 text p.1 p.2.1 p.2.2→bif p.1 then (p.2.1.length≤(1000000:Nat)∧[(32:UInt8)]=[(32:UInt8)])∧(cutF p.2.1).1.length≤(1000000:Nat)∧bif (cutF p.2.1).1.any fun
  (c:UInt8)=>!Snd.letB c then ([],false,(5:Int))=Hea.q4u e book pt text else bif (cutF p.2.1).1==[] then ([],false,(5:Int))=Hea.q4u e book pt text else bif decide ((12 :
  Int)<(↑(cutF p.2.1).1.length:Int)) then ([],false,(5:Int))=Hea.q4u e book pt text else bif (p.2.2.length:Int)==(5:Int) then ([],false,(5:Int))=Hea.q4u e book pt
  text else ((p.2.2.length+[(cutF p.2.1).1].length)*(16:Nat)≤(140737488355328:Nat)∧∃ (p':Bool×List UInt8×List (List UInt8)),q45 text p'.1 p'.2.1 p'.2.2∧((if p'.1=true
  then p'.2.1.length+(1:Nat) else (0:Nat))<if p.1=true then p.2.1.length+(1:Nat) else (0:Nat))∧((cutF p.2.1).2.2=p'.1∧True∧True∧True)∧(((cutF p.2.1).2.1=p'.2.1 ∧
  True)∧(True∧True∧True)∧(e.c=e.c∧True)∧(True∧True)∧(false=false∧True)∧(True∧True)∧(e.lang=e.lang∧e.ws=e.ws∧True)∧(pt.1=pt.1∧pt.2=pt.2∧True) ∧
  True)∧(p.2.2++[(cutF p.2.1).1]=p'.2.2∧True)∧True∧True∧(True∧True∧True∧book=book∧True∧True∧True)∧True∧True∧True∧True∧(True∧True∧True∧True)∧True)
  ∧ ((p.2.2.length+[(cutF p.2.1).1].length)*(16:Nat)≤(140737488355328:Nat)∧∃ (p':Bool×List UInt8×List (List UInt8)),q45 text p'.1 p'.2.1 p'.2.2∧((if p'.1=true then
  p'.2.1.length+(1:Nat) else (0:Nat))<if p.1=true then p.2.1.length+(1:Nat) else (0:Nat))∧((cutF p.2.1).2.2=p'.1∧True∧True∧True)∧(((cutF p.2.1).2.1=p'.2.1∧True)
  ∧ (True∧True∧True)∧(e.c=e.c∧True)∧(True∧True)∧(false=false∧True)∧(True∧True)∧(e.lang=e.lang∧e.ws=e.ws∧True)∧(pt.1=pt.1∧pt.2=pt.2∧True)∧True) ∧
  (p.2.2++[(cutF p.2.1).1]=p'.2.2∧True)∧True∧True∧(True∧True∧True∧book=book∧True∧True∧True)∧True∧True∧True∧True∧(True∧True∧True∧True)∧True) ∧
  (p.2.2.length+[(cutF p.2.1).1].length)*(16:Nat)≤(140737488355328:Nat)∧∃ (p':Bool×List UInt8×List (List UInt8)),q45 text p'.1 p'.2.1 p'.2.2∧((if p'.1=true then
  p'.2.1.length+(1:Nat) else (0:Nat))<if p.1=true then p.2.1.length+(1:Nat) else (0:Nat))∧((cutF p.2.1).2.2=p'.1∧True∧True∧True)∧(((cutF p.2.1).2.1=p'.2.1∧True)
  ∧ (True∧True∧True)∧(e.c=e.c∧True)∧(True∧True)∧(false=false∧True)∧(True∧True)∧(e.lang=e.lang∧e.ws=e.ws∧True)∧(pt.1=pt.1∧pt.2=pt.2∧True)∧True) ∧
  (p.2.2++[(cutF p.2.1).1]=p'.2.2∧True)∧True∧True∧(True∧True∧True∧book=book∧True∧True∧True)∧True∧True∧True∧True∧(True∧True∧True∧True)∧True else
  (List.length book≤(1000000:Nat)∧FarR1 e book pt p.2.2 (Hea.q4u e book pt text))∧List.length book≤(1000000:Nat)∧(FarR1 e book pt p.2.2 (Hea.q4u e book pt text))∧FarR2 e
  book pt p.2.2 (Hea.q4u e book pt text)
  := by
 obtain ⟨hW,hC,hB,hT⟩:=h;have hT:text.length≤1000:=hT;simp only [true_and,and_true];refine ⟨⟨hW,hC,hB⟩,bifP (λhb=>?_) λhb=>?_⟩
 ·unfold Hea.q4u
  rw [show e.proper book=false by simpa using hb];rfl
 have hp:e.proper book=true:=by simpa using hb
 refine bifP (λhb=>?_) λhb=>?_
 ·unfold Hea.q4u
  rw [hp,show Cod.onB pt=false by simpa using hb];rfl
 have ho:Cod.onB pt=true:=by simpa using hb
 have hh:Hea.q4u e book pt text=match Hea.q4y text with
   | none=>([],false,5)
   | some words=>Hea.q0i (Hea.q04 e) e.ws words (book.filter (Hea.q02 pt)) []:=by
  unfold Hea.q4u;rw [hp,ho];rfl
 refine ⟨⟨(true,text,[]),⟨rfl,rfl,Nat.zero_le _,Nat.le_refl _⟩,rfl,rfl,rfl⟩,?_⟩;rintro ⟨more,rest,w⟩ hlis;have hlis:q45 text more rest w:=hlis;have hlw:w.length≤5:=hlis.2.2.1;have hlr:rest.length≤text.length:=hlis.2.2.2;dsimp only;refine bifP (λhb=>?_) λhb=>?_
 ·obtain rfl:more=true:=hb
  have bad:Hea.q4w (cutF rest).1=false∨w.length=5→([],false,(5:Int))=Hea.q4u e book pt text:=λh=>by
   rw [hh,Hea.lis_bad hlis h]
  have hcl:(cutF rest).1.length≤1000000:=by
   unfold cutF;split
   ·dsimp only;rw [List.length_take];omega
   ·dsimp only;omega
  refine ⟨by omega,hcl,bifP (λhb=>bad (.inl (Hea.q9d (.inl hb)))) λh1=>bifP (λhb=>bad (.inl (Hea.q9d (.inr (.inl hb))))) λh2=>bifP (λhb=>bad (.inl (Hea.q9d (.inr (.inr (of_decide_eq_true hb)))))) λh3=>bifP (λhb=>bad (.inr (by have:=eq_of_beq hb;omega))) λh4=>?_⟩
  have h5:w.length<5:=by rw [beq_eq_false_iff_ne] at h4;omega
  have hst:=Hea.lis_step hlis (Hea.word_of h1 h2 (of_decide_eq_false h3)) h5;have hg:(w.length+[(cutF rest).1].length)*16≤140737488355328∧∃ p':Bool×List UInt8×List (List UInt8),q45 text p'.1 p'.2.1 p'.2.2∧((if p'.1=true then p'.2.1.length+1 else 0)<if true=true then rest.length+1 else 0)∧(cutF rest).2.2=p'.1∧(cutF rest).2.1=p'.2.1∧w++[(cutF rest).1]=p'.2.2 :=
   ⟨by rw [List.length_singleton];omega,((cutF rest).2.2,(cutF rest).2.1,w++[(cutF rest).1]),hst,Hea.lis_less,rfl,rfl,rfl⟩
  exact ⟨hg,hg,hg⟩
 ·obtain rfl:more=false:=hb
  have hv:Hea.q4u e book pt text=Hea.q0i (Hea.q04 e) e.ws w (book.filter (Hea.q02 pt)) []:=by rw [hh,Hea.lis_end hlis]
  have hwl:∀ s∈w,s.length≤1000000:=λs hs=>by
   have:=List.all_eq_true.1 hlis.2.1 s hs
   unfold Hea.q4w at this;simp only [Bool.and_eq_true,decide_eq_true_eq] at this;omega
  have hF:=findR_ok (pt:=pt) hp hC hW.2.2 hlw hwl hB.1 hv;exact ⟨⟨hB.1,far1_ok hB.1 hF hv⟩,hB.1,far1_ok hB.1 hF hv,far2_ok hB.1 hF hv⟩
theorem q0g.app {P:Program}:∀ {l m:List (Nat×Func)},q0g P l→q0g P m→q0g P (l++m)
 | [],m,_,h=>h
 | (k,fn)::l,m,hl,hm=>λf g hg=>by
  rw [List.cons_append,look?_cons] at hg;split at hg
  ·rename_i e
   subst e;exact hl k g (by rw [look?_cons,if_pos rfl];exact hg)
  ·rename_i hne
   by_cases hin:∃ y,look? f l=some y
   ·obtain ⟨y,hy⟩:=hin
    have:∀ {l m:List (Nat×Func)},look? f l=some y→look? f (l++m)=some y:=λ{l m} h=>by
     induction l with
     | nil=>cases h
     | cons z l ih =>
      obtain ⟨k2,f2⟩:=z;rw [List.cons_append,look?_cons];rw [look?_cons] at h;split
      ·rename_i e2;rw [if_pos e2] at h;exact h
      ·rename_i e2;rw [if_neg e2] at h;exact ih h
    rw [this hy] at hg;injection hg with hg;subst hg;exact hl f y (by rw [look?_cons,if_neg hne];exact hy)
   ·have:∀ {l m:List (Nat×Func)},(¬ ∃ y,look? f l=some y)→look? f (l++m)=look? f m:=λ{l m} h=>by
     induction l with
     | nil=>rfl
     | cons z l ih =>
      obtain ⟨k2,f2⟩:=z;rw [look?_cons] at h;rw [List.cons_append,look?_cons];split
      ·rename_i e2;exact absurd ⟨f2,by rw [if_pos e2]⟩ h
      ·rename_i e2
       refine ih λ⟨y,hy⟩=>h ⟨y,by rw [if_neg e2];exact hy⟩
    rw [this hin] at hg;exact hm f g hg
theorem kitHr_ok:kitHr.Ok Tryz.prog where
 cons:=all_cons qah (all_cons qhx (all_cons cut_holds (all_cons (show cEqS.lent.Holds Tryz.prog from eqS_holds) (all_cons qin (all_cons qjt all_nil)))))
 ns:=all_cons qg5 (all_cons cloneG_holds all_nil)
 os:=all_cons qf5 all_nil
 fcs:=all_cons qk0 all_nil
 rcs:=all_nil
 inls:=q0g.app inlHe_ok (q0g.more Tryz.func53 (by kernel_rfl) (by kernel_rfl) (q0g.more Tryz.func54 (by kernel_rfl) (by kernel_rfl) (q0g.more Tryz.func108 (by kernel_rfl) (by kernel_rfl) q0g.nil)))
set_option maxRecDepth 100000000 in
theorem here_holds:cHere.Holds Tryz.prog:=by
 refine holdsX (T:=kitHr) (λp=>anHr ⟨p.1.1,p.1.2,p.2.1⟩ p.2.2.1 p.2.2.2.1 p.2.2.2.2) Tryz.func20 (by kernel_rfl) (by kernel_rfl) mixed (by kernel_rfl) kitHr_ok (λ_=>[q65 7]) λp hp=>?_
 obtain ⟨⟨lang,ws⟩,c,book,pt,text⟩:=p;refine cast ?_ (here_vc ⟨lang,ws,c⟩ book pt text hp)
 kernel_rfl
end Go.Proofs.YtfecgebhoondjaaGreatDoor
namespace Go.Proofs.YtfecgebhoondjaaGreatDoor
namespace Cod
theorem bump_app {n:Int}:∀ (a r:List Int),a.all (λd=>decide (n≤d+1))=true→bump n (a++r)=(List.replicate a.length 0++(bump n r).1,(bump n r).2)
 | [],r,_=>rfl
 | d::a,r,h=>by
  rw [List.all_cons,Bool.and_eq_true,decide_eq_true_eq] at h;rw [List.cons_append,bump,decide_eq_false (by omega),bump_app a r h.2]
  rfl
theorem all_rev {α:Type} (p:α→Bool) (l:List α):l.reverse.all p=l.all p:=List.all_reverse
theorem next_end {n:Int} {l:List Int} (ht:(l.drop (l.length-l.length)).all (λd=>decide (n≤d+1))=true):(nextL n l).2=false:=by
 rw [Nat.sub_self,List.drop_zero] at ht;unfold nextL;have:=bump_app l.reverse [] (by rw [all_rev];exact ht)
 rw [List.append_nil] at this;rw [this];rfl
end Cod
open Go.RowKit R
theorem part_len (e:Cod.Ear) (code:List Int) (i k:Nat) (hw:e.ws.length≤1000000):(q3e e code i k).length≤1000000:=by
 unfold q3e;rw [List.length_map];have h1:=List.length_filter_le (λx=>!(x==code.getD i 0)) ((e.near (code.getD i 0)).take k)
 have h2:=qih e (code.getD i 0);rw [List.length_take] at h1;omega
theorem qjq (e:Cod.Ear) (code:List Int) (i:Nat) (hw:e.ws.length≤1000000):(e.q41 code i).length≤1000002:=by
 rw [qgi (Nat.le_refl _),List.length_append,List.length_cons];have:=part_len e code i (e.near (code.getD i 0)).length hw;split
 ·rw [List.length_nil];omega
 ·rw [List.length_singleton];omega
open Go.Lib
def IntsIn (w:World) (ok:Nat→Prop) (A:Option Addr) (n:Nat) (xs:List Int):Prop :=
 n=xs.length∧(0<n→∃ g off,A=some ⟨g,off,none⟩∧g<w.heap.size∧ok g∧∀ j,j<xs.length→w.cell? ⟨g,off+j,none⟩=some (.int .i64 (xs.getD j 0)))
open Go.Sort
structure SV (w:World) (S:Nat→Prop) where
 A:Option Addr
 c:Nat
 l:List Int
 small:l.length≤9223372036854775807
 cap:l.length≤c
 ok:IntsIn w S A l.length l
instance (w:World) (S:Nat→Prop):Inhabited (SV w S):=⟨⟨none,0,[],Nat.zero_le _,Nat.le_refl _,rfl,λh=>absurd h (Nat.lt_irrefl _)⟩⟩
def SV.enc {w:World} {S:Nat→Prop} (x:SV w S):Value:=.slice x.A x.l.length x.c
end Go.Proofs.YtfecgebhoondjaaGreatDoor
namespace Go.Proofs.YtfecgebhoondjaaGreatDoor
open Go.RowKit R
open Go.Lib Go.Sort
end Go.Proofs.YtfecgebhoondjaaGreatDoor
namespace Go.Proofs.YtfecgebhoondjaaGreatDoor
open Go.RowKit R
theorem few_out41 {lang:List UInt8} {ws:List (List UInt8)} {c:CfP} {book:q0c} {m:Int} (h:q60 (lang,ws) c book m=true):q1f (lang,ws)∧q0p c∧(∀ g∈book,g.2.1.length≤8∧g.1.length≤60)∧(book.length:Int)≤m∧ws.length≤8:=by
 unfold q60 q74 q6o at h;simp only [Bool.and_eq_true,List.all_eq_true,decide_eq_true_eq] at h;obtain ⟨⟨h1,h2,h3⟩,⟨h4,h5⟩,h6,h7,h8,h9⟩:=h;exact ⟨⟨by show lang.length≤_;omega,by show ws.length≤_;omega,λs hs=>Nat.le_trans (h3 s hs) (by omega)⟩,⟨by omega,λx hx=>by have:=h5 x hx;omega⟩,h9,h8,h6⟩
theorem longB_of {book:q0c} {m:Int} (h:∀ g∈book,g.2.1.length≤8∧g.1.length≤60) (hm:(book.length:Int)≤m) (hm2:m≤1000):q50 book:=⟨by omega,λg hg=>by have:=h g hg;omega⟩
theorem any_eq_false {l:List (List Int)} {x:List Int} (h:x ∉ l):l.any (λy=>y==x)=false:=by
 rw [List.any_eq_false];intro y hy;rw [beq_iff_eq];rintro rfl;exact h hy
def fewH (l:WlP) (c:CfP) (book:q0c) (text:List UInt8):Bool:=q60 l c book 8&&decide (text.length≤100)
def cFew42:Con:=.of 17 [ckWl,ckCf,q85,q36] [q2d] (λ_=>True) (λp=>fewH p.1 p.2.1 p.2.2.1 p.2.2.2)
def bk42:q0c:=[([101,49],[0,0,3],false,0,0),([101,50],[1,3,0],false,0,0)]
def q1u:List (List UInt8):=[[98,97,100,32,98,97,100,32,115,101,97],[98,97,100,32,112,97,100,32,115,101,97],[98,97,100,32,115,101,97],[98,97,100,32,115,101,97,32,98,97,100],[115,101,97,32,98,97,110,32,98,97,100],[112,97,110,32,115,101,97,32,98,97,100]]
def q34:List (List UInt8):=[[101,49],[101,49],[101,49],[101,49],[101,50],[101,50]]
def wd42:List (List UInt8):=[[98,97,100],[98,97,110],[112,97,110],[115,101,97]]
def cf42:CfP:=[([98],[112])]
def e42:Cod.Ear:=⟨[101,110],wd42,cf42⟩
def confRow (l:CfP):Row:=⟨72,kCf,l⟩
def cHead42:Con:=.of 16 [] [q2d] (λ_=>True) (λ_=>true)
def anHead42:List (Nat×Ann) :=
 [annX 0 Nat (λst k=>st.hd { live:=[1,2,3,5,6],sav:=[],box:=[1] } [(4,R.bool true),(7,R.int .i64 k)] [] [(20,q44 wd42),(23,confRow cf42),(28,qe7 bk42),(29,q44 q1u),(30,q44 q34)] [] none)
  (λ_ k=>k≤6)
  (λ_ k=>6-k),
 q65 10]
theorem ex_hear0:Hea.q0k e42 bk42 (q1u.getD 0 [])=(q34.getD 0 [],false,0):=by kernel_rfl
theorem ex_hear1:Hea.q0k e42 bk42 (q1u.getD 1 [])=(q34.getD 1 [],true,0):=by kernel_rfl
theorem ex_hear2:Hea.q0k e42 bk42 (q1u.getD 2 [])=(q34.getD 2 [],true,0):=by kernel_rfl
theorem ex_hear3:Hea.q0k e42 bk42 (q1u.getD 3 [])=(q34.getD 3 [],true,0):=by kernel_rfl
theorem ex_hear4:Hea.q0k e42 bk42 (q1u.getD 4 [])=(q34.getD 4 [],true,0):=by kernel_rfl
theorem ex_hear5:Hea.q0k e42 bk42 (q1u.getD 5 [])=(q34.getD 5 [],true,0):=by kernel_rfl
theorem ex_hear {k:Nat} (hk:k<6):Hea.q0k e42 bk42 (q1u.getD k [])=(q34.getD k [],decide ((0:Int)<(k:Int)),0):=by
 match k with
 | 0=>exact ex_hear0
 | 1=>exact ex_hear1
 | 2=>exact ex_hear2
 | 3=>exact ex_hear3
 | 4=>exact ex_hear4
 | 5=>exact ex_hear5
 | n+6=>omega
def cSameW:Con:=.of 58 [qad,qad] [q2d] (λp=>List.length p.1≤1000000000000000) (λp=>p.1==p.2)
def anSameW (a b:List (List UInt8)):List (Nat×Ann) :=
 [ann 0 Nat [0,1] (λk=>[(5,R.int .i64 k)]) (λk=>k≤a.length∧a.take k=b.take k) (λk=>a.length-k)]
def cExact:Con:=.of 24 [ckWl,qd9,qad] [q2d] (λp=>List.length p.2.1≤1000000∧Cod.inB p.1.2.length p.2.1=true) (λp=>Hea.ownW p.1.2 p.2.1==p.2.2)
def anExact (ws:List (List UInt8)) (code:List Int):List (Nat×Ann) :=
 [annX 0 Nat (λst k=>st.hd { live:=[1,2,3],sav:=[],box:=[3] } [(7,ownAV 25),(8,R.int .i64 k)] [] [(25,q44 (Hea.ownW ws (code.take k)))] [] none)
  (λ_ k=>k≤code.length) (λ_ k=>code.length-k),q65 5]
set_option maxRecDepth 100000 in
theorem sameW_vc (a b:List (List UInt8)) (h:cSameW.pre (a,b)) :
  bif (a.length:Int) != (b.length:Int) then false=(a==b) else (∃ (p':Nat),(p'≤a.length∧List.take p' a=List.take p' b)∧((0:Int)=(p':Int)∧a=a∧b=b∧True) ∧
  True∧True∧True∧True∧True∧True∧True∧True∧True)∧∀ (p:Nat),p≤a.length∧List.take p a=List.take p b→bif decide ((p:Int)<(a.length:Int)) then ((0:Int)≤(↑p
  : Int)∧(p:Int)<(a.length:Int))∧((0:Int)≤(p:Int)∧(p:Int)<(b.length:Int))∧bif !a.getD (p:Int).toNat []==b.getD (p:Int).toNat [] then false=(a==b)
  else ((-9223372036854775808:Int)≤(p:Int)+(1:Int)∧(p:Int)+(1:Int)≤(9223372036854775807:Int))∧∃ (p':Nat),(p'≤a.length∧List.take p' a=List.take p' b) ∧
  a.length-p'<a.length-p∧((p:Int)+(1:Int)=(p':Int)∧a=a∧b=b∧True)∧True∧True∧True∧True∧True∧True∧True∧True∧True else true=(a==b)
  := by
 have h:a.length≤1000000000000000:=h;simp only [true_and,and_true,eq_self];refine bifP (λhb=>?_) λhb=>?_
 ·have hl:a.length≠b.length:=by have:=bne_iff_ne.1 hb;omega
  symm
  rw [beq_eq_false_iff_ne];intro e;exact hl (by rw [e])
 have hl:a.length=b.length:=by have:=bne_eq_false_iff_eq.1 hb;omega
 refine ⟨⟨0,⟨Nat.zero_le _,rfl⟩,rfl⟩,?_⟩;rintro p ⟨hp,ht⟩;have hti:((p:Int).toNat)=p:=rfl;simp only [hti];refine bifP (λhb=>?_) λhb=>?_
 ·have hlt:p<a.length:=by have:=of_decide_eq_true hb;omega
  refine ⟨⟨by omega,by omega⟩,⟨by omega,by omega⟩,bifP (λhb=>?_) λh1=>⟨⟨by omega,by omega⟩,p+1,⟨by omega,?_⟩,by omega,by omega⟩⟩
  ·symm
   rw [beq_eq_false_iff_ne];intro e;rw [e] at hb;exact (bne_iff_ne.1 hb) rfl
  ·rw [Snd.q1x a [] p hlt,Snd.q1x b [] p (by omega),ht,bne_eq_false_iff_eq.1 h1]
 ·have hle:a.length≤p:=by have:=of_decide_eq_false hb;omega
  rw [List.take_of_length_le hle,List.take_of_length_le (by omega)] at ht
  rw [ht,beq_self_eq_true]
set_option maxRecDepth 100000 in
theorem qhf:cSameW.Holds Tryz.prog:=by
 refine q1j (cons:=[]) Tryz.func58 (by kernel_rfl) (by kernel_rfl) mixed (by kernel_rfl) all_nil (λp=>anSameW p.1 p.2) λp hp=>?_
 obtain ⟨a,b⟩:=p;refine cast ?_ (sameW_vc a b hp)
 kernel_rfl
set_option maxRecDepth 100000 in
theorem exact42_vc (lang:List UInt8) (ws:List (List UInt8)) (code:List Int) (words:List (List UInt8)) (h:cExact.pre ((lang,ws),code,words)) :
  (∃ (p':Nat),p'≤code.length∧(True∧(0:Int)=(p':Int)∧code=code∧words=words∧True∧True)∧((lang=lang∧ws=ws∧True)∧True)∧(Hea.ownW ws (List.take p' code) =
  []∧True)∧True∧True∧True∧True∧True∧True∧True)∧∀ (p:Nat),p≤code.length→bif decide ((p:Int)<(code.length:Int)) then ((0:Int)≤(p:Int)∧(p:Int) <
  (code.length:Int))∧((0:Int)≤code.getD (p:Int).toNat (0:Int)∧code.getD (p:Int).toNat (0:Int)<(ws.length:Int))∧((Hea.ownW ws (List.take p code)).length+[ws.getD
  (code.getD (p:Int).toNat (0:Int)).toNat []].length)*(16:Nat)≤(140737488355328:Nat)∧((-9223372036854775808:Int)≤(p:Int)+(1:Int)∧(p:Int)+(1:Int) ≤
  (9223372036854775807:Int))∧∃ (p':Nat),p'≤code.length∧code.length-p'<code.length-p∧(True∧(p:Int)+(1:Int)=(p':Int)∧code=code∧words=words∧True∧True)
  ∧ ((lang=lang∧ws=ws∧True)∧True)∧(Hea.ownW ws (List.take p code)++[ws.getD (code.getD (p:Int).toNat (0:Int)).toNat []]=Hea.ownW ws (List.take p' code)∧True)∧True ∧
  True∧True∧True∧True∧True∧True else (Hea.ownW ws (List.take p code)).length≤(1000000000000000:Nat)∧(Hea.ownW ws (List.take p code)==words)=(Hea.ownW ws code==words)
  := by
 obtain ⟨hl,hin⟩:=h;simp only [true_and,and_true];have hl:code.length≤1000000:=hl;refine ⟨⟨0,Nat.zero_le _,rfl,rfl⟩,?_⟩;intro p hp;have hlen:(Hea.ownW ws (code.take p)).length=p:=by rw [Hea.ownW,List.length_map,List.length_take];omega
 have hti:((p:Int).toNat)=p:=rfl;simp only [hti];refine bifP (λhb=>?_) λhb=>?_
 ·have hlt:p<code.length:=by have:=of_decide_eq_true hb;omega
  have hc:=Cod.q7o hin hlt;refine ⟨⟨by omega,by omega⟩,hc,by rw [hlen,List.length_singleton];omega,⟨by omega,by omega⟩,p+1,by omega,by omega,by omega,?_⟩
  have hg:code.getD p 0=code[p]:=by rw [List.getD_eq_getElem?_getD,List.getElem?_eq_getElem hlt];rfl
  rw [List.take_add_one,List.getElem?_eq_getElem hlt,hg];simp only [Hea.ownW,List.map_append,Option.toList_some,List.map_cons,List.map_nil]
 ·have hle:code.length≤p:=by have:=of_decide_eq_false hb;omega
  rw [hlen,List.take_of_length_le hle];exact ⟨by omega,rfl⟩
set_option maxRecDepth 100000 in
theorem qf9:cExact.Holds Tryz.prog:=by
 refine q1j (cons:=[cSameW]) Tryz.func24 (by kernel_rfl) (by kernel_rfl) mixed (by kernel_rfl) (all_cons qhf all_nil) (λp=>anExact p.1.2 p.2.1) λp hp=>?_
 obtain ⟨⟨lang,ws⟩,code,words⟩:=p;refine cast ?_ (exact42_vc lang ws code words hp)
 kernel_rfl
end Go.Proofs.YtfecgebhoondjaaGreatDoor
namespace Go.Proofs.YtfecgebhoondjaaGreatDoor
namespace Hea
def stepW (out:List Str) (c:UInt8):List Str:=if c==32 then out++[[]] else out.set (out.length-1) (out.getD (out.length-1) []++[c])
theorem qep (x:Str) {l:List Str} (hl:l≠[]) (c:UInt8):stepW (x::l) c=x::stepW l c:=by
 unfold stepW;obtain ⟨n,hn⟩:∃ n,l.length=n+1:=⟨l.length-1,by have:=List.length_pos_iff.2 hl;omega⟩
 cases hc:(c==32)
 ·rw [if_neg (by simp),if_neg (by simp),List.length_cons,hn,Nat.add_sub_cancel,Nat.add_sub_cancel];rfl
 ·rw [if_pos rfl,if_pos rfl];rfl
theorem cutW_snoc (c:UInt8):∀ s:Str,cutW (s++[c])=stepW (cutW s) c
 | []=>by
  show cutW [c]=stepW [[]] c;unfold stepW;cases hc:(c==32)
  ·simp [cutW,hc]
  ·simp [cutW,hc]
 | a::r=>by
  have ih:=cutW_snoc c r;have hne:=qgu r;rw [List.cons_append,cutW,cutW,ih];cases ha:(a==32)
  ·rw [if_neg (by simp),if_neg (by simp)]
   cases h:cutW r with
   | nil=>exact absurd h hne
   | cons w ws =>
    cases ws with
    | nil =>
     unfold stepW;cases hc:(c==32)
     ·simp
     ·simp
    | cons v vs =>
     rw [qep w (by simp),qep (a::w) (by simp)]
  ·rw [if_pos rfl,if_pos rfl,qep _ hne]
theorem ql3 (s:Str) {p:Nat} (hp:p<s.length):(s.take (p+1)).drop p=[s.getD p 0]:=by
 have hg:s.getD p 0=s[p]:=by rw [List.getD_eq_getElem?_getD,List.getElem?_eq_getElem hp];rfl
 rw [hg,List.drop_take,Nat.add_sub_cancel_left,List.drop_eq_getElem_cons hp];rfl
theorem take_one (s:Str) {p:Nat} (hp:p<s.length):s.take (p+1)=s.take p++[s.getD p 0]:=by
 have hg:s.getD p 0=s[p]:=by rw [List.getD_eq_getElem?_getD,List.getElem?_eq_getElem hp];rfl
 rw [hg,List.take_add_one,List.getElem?_eq_getElem hp];rfl
theorem take_oneL (s:List Str) {p:Nat} (hp:p<s.length):s.take (p+1)=s.take p++[s.getD p []]:=by
 have hg:s.getD p []=s[p]:=by rw [List.getD_eq_getElem?_getD,List.getElem?_eq_getElem hp];rfl
 rw [hg,List.take_add_one,List.getElem?_eq_getElem hp];rfl
theorem cut_step (s:Str) {p:Nat} (hp:p<s.length):cutW (s.take (p+1))=stepW (cutW (s.take p)) (s.getD p 0):=by
 rw [take_one s hp,cutW_snoc]
theorem qey:∀ s:Str,(cutW s).length≤s.length+1
 | []=>Nat.le_refl _
 | c::r=>by
  have ih:=qey r;rw [cutW];split
  ·rw [List.length_cons,List.length_cons];omega
  ·split
   ·rename_i h;rw [h,List.length_cons] at ih;rw [List.length_cons,List.length_cons];omega
   ·rw [List.length_cons,List.length_cons,List.length_nil];omega
theorem qfz:∀ (s:Str) (w:Str),w∈cutW s→w.length≤s.length
 | [],w,h=>by
  have:w=[]:=by simpa [cutW] using h
  rw [this];exact Nat.le_refl _
 | c::r,w,h=>by
  have ih:=qfz r;rw [List.length_cons];rw [cutW] at h;split at h
  ·cases List.mem_cons.1 h with
   | inl e=>rw [e];exact Nat.zero_le _
   | inr e=>have:=ih w e;omega
  ·split at h
   ·rename_i v vs hv
    rw [hv] at ih;cases List.mem_cons.1 h with
    | inl e=>have:=ih v List.mem_cons_self;rw [e,List.length_cons];omega
    | inr e=>have:=ih w (List.mem_cons_of_mem _ e);omega
   ·have:w=[c]:=by simpa using h
    rw [this,List.length_singleton];omega
theorem cut_getD_len (s:Str) (i:Nat):((cutW s).getD i []).length≤s.length:=by
 rw [List.getD_eq_getElem?_getD];cases h:(cutW s)[i]? with
 | none=>exact Nat.zero_le _
 | some w=>exact qfz s w (List.mem_of_getElem? h)
theorem all_bad {α:Type} {l:List α} {f:α→Bool} {d:α} {p:Nat} (hp:p<l.length) (h:f (l.getD p d)=false):l.all f=false:=by
 have hg:l.getD p d=l[p]:=by rw [List.getD_eq_getElem?_getD,List.getElem?_eq_getElem hp];rfl
 rw [hg] at h;cases ha:l.all f
 ·rfl
 ·have:=List.all_eq_true.1 ha l[p] (List.getElem_mem hp)
  rw [h] at this;cases this
end Hea
end Go.Proofs.YtfecgebhoondjaaGreatDoor
namespace Go.Proofs.YtfecgebhoondjaaGreatDoor
open Go.RowKit
namespace Hea
def okC (c:UInt8):Bool:=c==32||(decide (97≤c.toNat)&&decide (c.toNat≤122))
def okL (w:Str):Bool:=decide (1≤w.length)&&decide (w.length≤12)
def q20 (text:Str):List Str×Bool:=if 100<text.length then ([],false) else if !text.all okC then ([],false) else if !(cutW text).all okL then ([],false) else (cutW text,decide ((cutW text).length≤5))
end Hea
open R
def cSaid:Con:=.of 23 [.one .str] [qad,q2d] (λ_=>True) (λp=>Hea.q20 p)
def anSaid (text:List UInt8):List (Nat×Ann) :=
 [annX 0 Nat (λst k=>st.hd { live:=[0],sav:=[],box:=[] } [(4,ownAV 10),(5,R.int .i64 k)] [] [(10,q44 (Hea.cutW (text.take k)))] [] none)
  (λ_ k=>k≤text.length∧(text.take k).all Hea.okC=true) (λ_ k=>text.length-k),
 annX 2 Nat (λst k=>st.hd { live:=[0],sav:=[],box:=[] } [(4,ownAV 10),(6,R.int .i64 k)] [] [(10,q44 (Hea.cutW text))] [] none)
  (λ_ k=>k≤(Hea.cutW text).length∧((Hea.cutW text).take k).all Hea.okL=true) (λ_ k=>(Hea.cutW text).length-k),
 q65 11]
end Go.Proofs.YtfecgebhoondjaaGreatDoor
namespace Go.Proofs.YtfecgebhoondjaaGreatDoor
namespace Hea
def letW (w:Str):Bool:=w.all λc=>decide (97≤c.toNat)&&decide (c.toNat≤122)
theorem all_cut:∀ s:Str,s.all okC=(cutW s).all letW
 | []=>rfl
 | c::r=>by
  have ih:=all_cut r;rw [List.all_cons,cutW,okC];cases hc:(c==32)
  ·rw [if_neg (by simp)]
   cases h:cutW r with
   | nil=>exact absurd h (qgu r)
   | cons w ws =>
    rw [h,List.all_cons] at ih;rw [ih];show ((false||(decide (97≤c.toNat)&&decide (c.toNat≤122)))&&(letW w&&ws.all letW))=(((decide (97≤c.toNat)&&decide (c.toNat≤122))&&letW w)&&ws.all letW);rw [Bool.false_or,Bool.and_assoc (decide (97≤c.toNat)&&decide (c.toNat≤122)) (letW w)]
  ·rw [if_pos rfl,List.all_cons,ih];rfl
theorem word_split (w:Str):q4w w=(okL w&&letW w):=by
 unfold q4w okL letW;cases w with
 | nil=>rfl
 | cons c r=>simp [Bool.and_assoc]
theorem qhu:∀ l:List Str,l.all q4w=(l.all okL&&l.all letW)
 | []=>rfl
 | w::r=>by
  rw [List.all_cons,List.all_cons,List.all_cons,qhu r,word_split];cases okL w <;> cases letW w <;> simp
theorem cut_total:∀ s:Str,(cutW s).all okL=true→s.length+1≤13*(cutW s).length:=by
 have key:∀ l:List Str,l.all okL=true→(l.map λw=>w.length+1).sum≤13*l.length:=by
  intro l
  induction l with
  | nil=>intro _;exact Nat.le_refl _
  | cons w r ih =>
   intro h;rw [List.all_cons,Bool.and_eq_true] at h;have h1:=ih h.2;have h2:w.length≤12:=by have:=h.1;unfold okL at this;rw [Bool.and_eq_true] at this;exact of_decide_eq_true this.2
   rw [List.map_cons,List.sum_cons,List.length_cons];omega
 have sum:∀ s:Str,((cutW s).map λw=>w.length+1).sum=s.length+1:=by
  intro s
  induction s with
  | nil=>rfl
  | cons c r ih =>
   rw [cutW];split
   ·rw [List.map_cons,List.sum_cons,ih,List.length_cons,List.length_nil];omega
   ·split
    ·rename_i w ws h;rw [h,List.map_cons,List.sum_cons] at ih;rw [List.map_cons,List.sum_cons,List.length_cons,List.length_cons];omega
    ·rename_i h;exact absurd h (qgu r)
 intro s h;rw [← sum s];exact key _ h
theorem saidR_some {text:Str} {w:List Str} (h:q4y text=some w):q20 text=(w,true):=by
 unfold q4y at h;split at h
 ·rename_i hc
  rw [Bool.and_eq_true,qhu,Bool.and_eq_true] at hc;injection h with h;have h5:=of_decide_eq_true hc.2;have ht:=cut_total text hc.1.1;unfold q20;rw [if_neg (by omega),if_neg (by rw [all_cut,hc.1.2];simp),if_neg (by rw [hc.1.1];simp),h,← h,decide_eq_true h5]
 ·cases h
end Hea
namespace Hea
def q3m (al:Str→Str→Bool) (own words:List Str) (i:Nat):Bool :=
 own.take i++own.drop (i+1)==words ||
 ((decide (i<words.length)&&al (own.getD i []) (words.getD i []))&&own.set i (words.getD i [])==words) ||
 (decide (0<i)&&(own.set (i-1) (own.getD i [])).set i (own.getD (i-1) [])==words)
def misR (al:Str→Str→Bool) (own words:List Str):Bool:=!(own==words)&&(List.range own.length).any (q3m al own words)
end Hea
namespace Hea
theorem miss_at (own words:List Str):q3g own words=(List.range own.length).any λi=>own.take i++own.drop (i+1)==words:=by
 unfold q3g
 congr 1
 funext i
 rw [List.eraseIdx_eq_take_drop_succ]
theorem set_self (l:List Str) (i:Nat):l.set i (l.getD i [])=l:=by
 by_cases h:i<l.length
 ·have hg:l.getD i []=l[i]:=by rw [List.getD_eq_getElem?_getD,List.getElem?_eq_getElem h];rfl
  rw [hg,List.set_getElem_self]
 ·exact List.set_eq_of_length_le (by omega)
theorem mis_iff {al:Str→Str→Bool} {own words:List Str} (hne:own≠words):misR al own words=true↔q5d al own words=true:=by
 have hb:(own==words)=false:=beq_eq_false_iff_ne.2 hne;unfold misR q5d;rw [hb,Bool.not_false,Bool.true_and,List.any_eq_true,Bool.or_eq_true,Bool.or_eq_true,miss_at,List.any_eq_true];constructor
 ·rintro ⟨i,hi,h⟩
  have hil:=List.mem_range.1 hi;unfold q3m at h;rw [Bool.or_eq_true,Bool.or_eq_true] at h;rcases h with (h | h) | h
  ·exact .inr (.inl ⟨i,hi,h⟩)
  ·left
   rw [Bool.and_eq_true,Bool.and_eq_true] at h;have hs:=eq_of_beq h.2;have hn:words.getD i []≠own.getD i []:=by
    intro e;rw [e] at hs;refine hne (Eq.trans ?_ hs);have hg:own.getD i []=own[i]:=by rw [List.getD_eq_getElem?_getD,List.getElem?_eq_getElem hil];rfl
    rw [hg,List.set_getElem_self]
   have hd:=qj2 hil hn;rw [hs] at hd;unfold q33;rw [hd,show own.length=words.length by rw [← hs,List.length_set]]
   rw [beq_self_eq_true,Bool.true_and,List.all_cons,List.all_nil];show ((al (own.getD i []) (words.getD i [])&&true)&&true)=true;rw [h.1.2];rfl
  ·right;right
   rw [Bool.and_eq_true] at h;have h0:=of_decide_eq_true h.1;unfold q3i;rw [List.any_eq_true];refine ⟨i-1,List.mem_range.2 (by omega),?_⟩
   have he:q0u own (i-1)=words:=by
    have:=eq_of_beq h.2
    unfold q0u;rw [show i-1+1=i by omega];exact this
   rw [he,beq_self_eq_true,Bool.true_and,bne_iff_ne];intro e;refine hne (Eq.trans ?_ he);unfold q0u;rw [← e,set_self,e,set_self]
 ·rintro (h | ⟨i,hi,h⟩ | h)
  ·unfold q33 at h
   rw [Bool.and_eq_true,Bool.and_eq_true] at h;obtain ⟨hl,ha,h1⟩:=h;obtain ⟨p,hp⟩:=List.length_eq_one_iff.1 (eq_of_beq h1);obtain ⟨i,hi,h2,h3,h4⟩:=qj7 (eq_of_beq hl) hp;have hil:i<words.length:=by rw [← eq_of_beq hl];exact hi
   have hw:words.getD i []=p.2:=by rw [h4,List.getD_eq_getElem?_getD,List.getElem?_set_self hi];rfl
   rw [hp,List.all_cons,List.all_nil,Bool.and_true] at ha;refine ⟨i,List.mem_range.2 hi,?_⟩;unfold q3m;rw [decide_eq_true hil,hw,← h2,ha,← h4,beq_self_eq_true];simp
  ·refine ⟨i,hi,?_⟩
   unfold q3m;rw [h,Bool.true_or,Bool.true_or]
  ·unfold q3i at h
   rw [List.any_eq_true] at h;obtain ⟨i,hi,h⟩:=h;rw [Bool.and_eq_true] at h;have hil:=List.mem_range.1 hi;refine ⟨i+1,List.mem_range.2 (by omega),?_⟩
   have he:=h.1;unfold q0u at he;unfold q3m;rw [decide_eq_true (Nat.succ_pos i),Nat.add_sub_cancel,he,Bool.true_and,Bool.or_true]
end Hea
end Go.Proofs.YtfecgebhoondjaaGreatDoor
namespace Go.Proofs.YtfecgebhoondjaaGreatDoor
open Go.RowKit
attribute [local go_sem] q1w q1b q1l
end Go.Proofs.YtfecgebhoondjaaGreatDoor
namespace Go.Proofs.YtfecgebhoondjaaGreatDoor
open Go.RowKit
attribute [local go_sem] q1w q1b q1l Later.cell Later.frozen wrap64_nat wrap64_add wrap64_succ
end Go.Proofs.YtfecgebhoondjaaGreatDoor
namespace Go.Proofs.YtfecgebhoondjaaGreatDoor
open Go.RowKit R
abbrev q8s:CK:=.one .str
abbrev ckIntR:CK:=.one (.int .i64)
def cRLet:Con:=.of 110 [q8s,ckIntR,ckIntR] [.one .bool] (λp=>List.length p.1≤1000000) (λp=>Snd.q0d p.1 p.2.1 p.2.2)
def anRLet (s:List UInt8):List (Nat×Ann):=[ann 0 Nat [0,1,2] (λk=>[(7,R.int .i64 k)]) (λk=>k≤s.length∧(s.take k).all Snd.letB=true) (λk=>s.length-k)]
def qiz:Con:=.of 70 [ckCf] [.one .bool] q0p Snd.q0j
def anRProper (c:CfP):List (Nat×Ann) :=
 [ann 0 Nat [0] (λk=>[(3,R.int .i64 k)]) (λk=>k≤c.length∧(c.take k).all Snd.okC=true∧Snd.fresh (c.take k)=true) (λk=>c.length-k),
 annS 2 Nat [0,3] (λk=>[(4,R.int .i64 k)]) (λ_=>[]) (λst k=>k≤(st.intOf 3).toNat∧(c.take k).any (Snd.same (c.getD (st.intOf 3).toNat ([],[])))=false) (λst k=>(st.intOf 3).toNat-k)]
def cRRep:Con:=.of 146 [q8s,q8s,q8s,q8s] [.one .bool] (λp=>List.length p.1≤1000000∧List.length p.2.2.1≤1000000∧List.length p.2.2.2≤1000000) (λp=>Snd.repB p.1 p.2.1 p.2.2.1 p.2.2.2)
def anRRep (x y a b:List UInt8):List (Nat×Ann) :=
 [ann 0 Nat [0,1,2,3] (λk=>[(9,R.int .i64 k)]) (λk=>k≤x.length+1∧∀ j,j<k→Snd.q6j x y a b j=false) (λk=>x.length+1-k)]
def qjb:Con:=.of 111 [ckCf,q8s,q8s] [.one .bool] (λp=>q0p p.1∧List.length p.2.1≤1000000∧List.length p.2.2≤1000000) (λp=>Snd.q1a p.1 p.2.1 p.2.2)
def anRSounds (c:CfP) (x y:List UInt8):List (Nat×Ann) :=
 [ann 0 Nat [0,1,2] (λk=>[(7,R.int .i64 k)]) (λk=>k≤c.length∧(c.take k).any (Snd.hitB x y)=false) (λk=>c.length-k)]
def cRAlike:Con:=.of 59 [ckCf,q8s,q8s] [.one .bool] (λp=>q0p p.1∧List.length p.2.1≤1000000∧List.length p.2.2≤1000000) (λp=>Snd.q0l p.1 p.2.1 p.2.2)
def annF (l:Nat) (frz:List Nat) (ι:Type) (at_:St→ι→St) (inv:St→ι→Prop):Nat×Ann:=(2000000+l,{ ι:=ι,at_:=at_,inv:=inv,mu:=λ_ _=>0,live:=frz })
def dataS (l:List (List UInt8)):AV:=.c (.one (.val (.sl kS) l))
def cMisR:Con:=.of 25 [ckWl,ckCf,qd9,qad] [q2d] (λp=>q1f p.1∧q0p p.2.1∧List.length p.2.2.1≤1000000∧Cod.inB p.1.2.length p.2.2.1=true∧List.length p.2.2.2≤1000000∧∀ s∈p.2.2.2,s.length≤1000000)
 (λp=>Hea.misR (Snd.q0l p.2.1) (Hea.ownW p.1.2 p.2.2.1) p.2.2.2)
def anMisR (c:CfP) (ws:List (List UInt8)) (code:List Int) (words:List (List UInt8)):List (Nat×Ann) :=
 [annX 0 Nat (λst k=>st.hd { live:=[1,2,3,4],sav:=[],box:=[4] } [(9,ownAV 34),(10,R.int .i64 k)] [] [(34,q44 (Hea.ownW ws (code.take k)))] [] none)
  (λ_ k=>k≤code.length) (λ_ k=>code.length-k),
 annF 8 [34] Unit (λst _=>st.hd { live:=[1,2,3,4],sav:=[],box:=[4] } [(9,dataS (Hea.ownW ws code))] [] [] [] none) (λ_ _=>True),
 annX 2 Nat (λst k=>st.hd { live:=[1,2,3,4,9],sav:=[],box:=[4] } [(11,R.int .i64 k)] [] [] [] none)
  (λ_ k=>k≤code.length∧∀ j,j<k→Hea.q3m (Snd.q0l c) (Hea.ownW ws code) words j=false) (λ_ k=>code.length-k),
 q65 7]
def consMisR:List Con:=[cExact,cSameW,cRAlike]
end Go.Proofs.YtfecgebhoondjaaGreatDoor

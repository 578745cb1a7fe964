/-
  Several texts in one: HeN, HeNV, HeO, HeQ, CoGL, CoGB, CoGC, CoS, CoTL, CoW, CoX, CoZA, CoY.
-/
import Derived.Test.YtfecgebhoondjaaGreatDoorPQ
import Derived.Test.YtfecgebhoondjaaGreatDoorPA
import Derived.Test.YtfecgebhoondjaaGreatDoorPN
import Derived.Test.YtfecgebhoondjaaGreatDoorPO
import Derived.Test.YtfecgebhoondjaaGreatDoorPP
import Derived.Test.YtfecgebhoondjaaGreatDoorPB
import Derived.Deep.LoopGhost
import Derived.Lib.OwnBridge
import Derived.Shelf.SlSortCmp.NoneTotal
set_option linter.unusedVariables false
namespace Go.Proofs.YtfecgebhoondjaaGreatDoor
open Go.RowKit Go.Lib R
set_option maxHeartbeats 2000000 in
set_option maxRecDepth 100000 in
theorem cloneG_any (it:TypeInfo) (z:Value) (hi:Tryz.prog.info? 42=some it) (hz0:it.zero=some z) (hz1:it.size=5) (hz2:it.bytes=64) (hzs:z.cells.size=5)
  (ad:Addr) (n c:Nat) (news:List Value) (w:World) (hl:news.length=n*5) (hn:n≤maxLen) (hbig:n*64≤140737488355328) (hc:∀ j u,news[j]? = some u→w.cell? (ad.add j)=some u) (h1:∀ u∈news,u.oneCell'=true) :
  Calls Tryz.prog 55 #[.slice (some ad) n c] w λe w'=>∃ v',e=.returned v'∧w'.ownsRow w.heap.size 42 5 v' n news∧Below w.heap.size w w':=by
 have t22:=Tryz.underlying26;have q22:∀ (w:World) (a:Option Addr) (n c n' c':Nat),(binOp .eql 26 (.slice a n c) (.slice none n' c')).run Tryz.prog w=.ok (.bool a.isNone) w:=λw a n c n' c'=>Lib.run_eql_slice_nil w _ _ a n c n' c' t22
 have u22:∀ w,Sem.run Tryz.prog (underlying 26) w=.ok (TypeDesc.slice 42) w:=run_underlying t22;have A:Aside (∀ j u,news[j]? = some u→w.cell? (ad.add j)=some u):=hc;clear hc
 go_enter Tryz.func55,Tryz.ntmps55
 go_wp2_with (at_builtin;refine wpList_append_own _ rfl _ _ 26 rfl w.heap.size 42 it z 5 64 t22 hi hz0 hz1 hz2 hzs (by decide) _ _ _ rfl (World.ownsRow_made w #[] 0 (Nat.le_refl _) (Nat.zero_le _) (by simp)) ad n c news rfl ?qc1 ?qc2 ?qc3 ?qc4 ?qc5 ?qc6 ?_)
 case qc1=>exact hl
 case qc2 =>
  intro j u hj;exact Lib.cell?_alloc_some _ (A.out j u hj)
 case qc3=>exact h1
 case qc4=>rw [Nat.zero_add];exact hn
 case qc5=>rw [Nat.zero_add];exact hbig
 case qc6=>simp
 intro v' w1 hown hgrow hnil
 go_wp2
 go_ret
 refine ⟨v',rfl,by simpa using hown,?_⟩
 exact ((Below.refl _ w).alloc (Nat.le_refl _) _).grown hgrow (by simp) (by intro k hk;simp [Value.ownBlock] at hk;omega)
set_option maxHeartbeats 2000000 in
set_option maxRecDepth 100000 in
theorem cloneG_nil (n c:Nat) (w:World):Calls Tryz.prog 55 #[.slice none n c] w λe w'=>e=.returned (.slice none 0 0)∧w'=w:=by
 have t22:=Tryz.underlying26;have q22:∀ (w:World) (a:Option Addr) (n c n' c':Nat),(binOp .eql 26 (.slice a n c) (.slice none n' c')).run Tryz.prog w=.ok (.bool a.isNone) w:=λw a n c n' c'=>Lib.run_eql_slice_nil w _ _ a n c n' c' t22
 go_enter Tryz.func55,Tryz.ntmps55
 go_wp2
 go_ret
 exact ⟨rfl,rfl⟩
def nCloneG:NCon:={ f:=55,args:=[q87],e:=42,fs:=kGiv,pre:=λl _=>List.length l≤1000000,F:=λl _=>l }
theorem cloneG_holds:nCloneG.Holds Tryz.prog:=by
 refine ⟨⟨_,Tryz.func55,by kernel_rfl,by kernel_rfl⟩,λp b vs fvs w S hS hpre hvs hfa=>?_⟩
 have hfa:fvs=[]:=hfa;subst hfa;obtain ⟨v,rfl,hv⟩:=q18 hvs;obtain ⟨p,rfl⟩:∃ q:q0d,q=p:=⟨p,rfl⟩;have hpre:p.length≤1000000:=hpre;have hv:(Kd.sl kGiv).Rep w S p v:=hv;obtain ⟨it,z,hi,hz0,hzs,hsz,hby,e1,e2,hone⟩:=q58 (P:=Tryz.prog) (e:=42) (size:=5) (bytes:=64) (by kernel_rfl)
 rcases src_cells hv with ⟨c,rfl,hz⟩ | ⟨ad,c,news,rfl,hl,hc,h1,hrow⟩
 ·refine (cloneG_nil 0 c w).mono ?_
  rintro e w' ⟨rfl,rfl⟩;have hz:p=[]:=hz;subst hz;exact ⟨Below.refl _ _,_,[],rfl,World.ownsRow_nil _ _ _ _,λi x hx=>by cases hx⟩
 ·have hl:news.length=p.length*5:=hl
  refine (cloneG_any it z hi hz0 e1 e2 (by rw [hzs,e1]) ad p.length c news w hl (by unfold maxLen;omega) (by omega) hc h1).mono ?_
  rintro e w' ⟨v',rfl,ho,hb⟩;exact ⟨hb,v',news,rfl,ho,hrow⟩
def cHere:Con:=.of 20 [ckWl,ckCf,q87,ckPt,q3c] [q3c,q3d,ckErr1] (λp=>q0y p.1∧q0o p.2.1∧q5k p.2.2.1∧List.length p.2.2.2.2≤1000) (λp=>Hea.q4x ⟨p.1.1,p.1.2,p.2.1⟩ p.2.2.1 p.2.2.2.1 p.2.2.2.2)
noncomputable def inlHr:List (Nat×Func):=inlHe++[(53,Tryz.f53),(54,Tryz.f54),(108,Tryz.f108)]
noncomputable def kitHr:Kit:={ cons:=[qbf,cAlike,cCut,cEqS.lent,cOn,cDist],ns:=[nCloneS,nCloneG],os:=[qiu],fcs:=[fOdd],inls:=inlHr }
def qea (l:q0d):Row:=⟨42,kGiv,l⟩
abbrev bkR:Nat:=39000
def hfHere:Hf:={ L:=30000,F:=42000,upL:=[(45,[2,5,8])],upF:=[],boxL:=[5,8] }
def bkHere (book:q0d) (p:Cod.Pt):List (Nat×Row):=[(bkR,qea (book.filter (Hea.q02 p)))]
abbrev liveHr:List (Nat×List Nat):=[(45,[5,35,36])]
def anFarH (book:q0d) (p:Cod.Pt):List (Nat×Ann) :=
 [annX 0 Nat (λst k=>st.hd { live:=[0,1,7],sav:=savK 0 ((42,[0,1])::liveHr),box:=[5,8,30011,30002] } [(8,R.int .i64 k)] [] [(bkR,qea book),(hfHere.wr,q65 (Get.rowS hfHere.wr st))] [] none)
  (λ_ k=>k≤book.length∧(book.take k).all (Hea.q02 p)=true)
  (λ_ k=>book.length-k)]
def q46 (book:q0d) (p:Cod.Pt) (k j:Nat) (l:q0d):Prop:=k<j∧j≤book.length∧l.length=book.length∧l.take k=(book.take j).filter (Hea.q02 p)∧l.drop j=book.drop j
def anDelH (book:q0d) (p:Cod.Pt):List (Nat×Ann) :=
 [annX 0 (Nat×Nat×q0d) (λst q=>st.hd { live:=[0,1],sav:=savK 0 liveHr,box:=[5,8,30011,30002] } [(5,R.int .i64 q.1),(6,R.int .i64 q.2.1)] [] [(bkR,qea q.2.2),(hfHere.wr,q65 (Get.rowS hfHere.wr st))] [] none)
  (λ_ q=>q46 book p q.1 q.2.1 q.2.2)
  (λ_ q=>book.length-q.2.1)]
def anHr (e:Cod.Ear) (book:q0d) (p:Cod.Pt) (text:List UInt8):Nat→List (Nat×Ann):=λf =>
 bif Nat.beq f 54 then anDelH book p
 else bif Nat.beq f 108 then anFarH book p
 else anHe hfHere (bkHere book p) e (book.filter (Hea.q02 p)) text f
end Go.Proofs.YtfecgebhoondjaaGreatDoor
namespace Go.Proofs.YtfecgebhoondjaaGreatDoor
open Go.RowKit R
abbrev q20 (book:q0d) (e:Cod.Ear) (p_1:Nat×List (List UInt8)) (pt:Cod.Pt):Prop :=
 ((True∧True∧True)∧(e.c=e.c∧True)∧(e.lang=e.lang∧e.ws=e.ws∧True)∧(((List.filter (Hea.q02 pt) book).getD (p_1.1:Int).toNat Cod.noG).1=((List.filter (Hea.q02 pt) book).getD (p_1.1:Int).toNat Cod.noG).1∧((List.filter (Hea.q02 pt) book).getD (p_1.1:Int).toNat Cod.noG).2.1=((List.filter (Hea.q02 pt) book).getD (p_1.1:Int).toNat Cod.noG).2.1∧((List.filter (Hea.q02 pt) book).getD (p_1.1:Int).toNat Cod.noG).2.2.1=((List.filter (Hea.q02 pt) book).getD (p_1.1:Int).toNat Cod.noG).2.2.1∧((List.filter (Hea.q02 pt) book).getD (p_1.1:Int).toNat Cod.noG).2.2.2.1=((List.filter (Hea.q02 pt) book).getD (p_1.1:Int).toNat Cod.noG).2.2.2.1∧((List.filter (Hea.q02 pt) book).getD (p_1.1:Int).toNat Cod.noG).2.2.2.2=((List.filter (Hea.q02 pt) book).getD (p_1.1:Int).toNat Cod.noG).2.2.2.2∧True)∧(True∧True)∧True)
abbrev q3p (book:q0d) (p_1:Nat×List (List UInt8)) (p_3:Nat) (pt:Cod.Pt):Prop :=
 (True∧True∧(p_3:Int)=(p_3:Int)∧(↑[((102:Nat),[(nat_lit 30011,nat_lit 0)].length,[(nat_lit 30011,nat_lit 0)]++[]),((103:Nat),[(nat_lit 30011,nat_lit 0)].length,[(nat_lit 30011,nat_lit 0)]++[]),((104:Nat),[(nat_lit 30011,nat_lit 0)].length,[(nat_lit 30011,nat_lit 0)]++[])].length:Int)=(↑[((102:Nat),[(nat_lit 30011,nat_lit 0)].length,[(nat_lit 30011,nat_lit 0)]++[]),((103:Nat),[(nat_lit 30011,nat_lit 0)].length,[(nat_lit 30011,nat_lit 0)]++[]),((104:Nat),[(nat_lit 30011,nat_lit 0)].length,[(nat_lit 30011,nat_lit 0)]++[])].length:Int)∧(p_3:Int)=(p_3:Int)∧True∧True∧True∧True∧True∧True∧(↑(List.filter (Hea.q02 pt) book).length:Int)=(↑(List.filter (Hea.q02 pt) book).length:Int)∧(p_1.1:Int)=(p_1.1:Int)∧True)
abbrev q9n (p':Nat) (p_3:Nat):Prop :=
 ((p_3:Int)+1=(p':Int)∧True∧True∧(↑[((102:Nat),[(nat_lit 30011,nat_lit 0)].length,[(nat_lit 30011,nat_lit 0)]++[]),((103:Nat),[(nat_lit 30011,nat_lit 0)].length,[(nat_lit 30011,nat_lit 0)]++[]),((104:Nat),[(nat_lit 30011,nat_lit 0)].length,[(nat_lit 30011,nat_lit 0)]++[])].length:Int)=(↑[((102:Nat),[(nat_lit 30011,nat_lit 0)].length,[(nat_lit 30011,nat_lit 0)]++[]),((103:Nat),[(nat_lit 30011,nat_lit 0)].length,[(nat_lit 30011,nat_lit 0)]++[]),((104:Nat),[(nat_lit 30011,nat_lit 0)].length,[(nat_lit 30011,nat_lit 0)]++[])].length:Int)∧True)
abbrev q27 (book:q0d) (p_1:Nat×List (List UInt8)) (p_2:Nat×List (List UInt8)) (pt:Cod.Pt) (w:List (List UInt8)):Prop :=
 (w=w∧p_1.2=p_1.2∧p_2.2=p_2.2∧List.filter (Hea.q02 pt) book=List.filter (Hea.q02 pt) book∧True)
abbrev q7m (book:q0d) (e:Cod.Ear) (p':Nat×List (List UInt8)) (pt:Cod.Pt) (w:List (List UInt8)):Prop :=
 (p'.1≤(List.filter (Hea.q02 pt) book).length∧p'.2.length≤p'.1∧Hea.q0i (Hea.q06 e) e.ws w (List.filter (Hea.q02 pt) book) []=Hea.q0i (Hea.q06 e) e.ws w (List.drop p'.1 (List.filter (Hea.q02 pt) book)) p'.2)
abbrev q7c (book:q0d) (p_1:Nat×List (List UInt8)) (pt:Cod.Pt):Prop :=
 (True∧True∧True∧True∧True∧True∧(↑(List.filter (Hea.q02 pt) book).length:Int)=(↑(List.filter (Hea.q02 pt) book).length:Int)∧(p_1.1:Int)=(p_1.1:Int)∧True)
abbrev qiw (book:q0d) (e:Cod.Ear) (p_1:Nat×List (List UInt8)) (pt:Cod.Pt):Prop :=
 ((True∧True)∧(True∧True∧True)∧(e.c=e.c∧True)∧(e.lang=e.lang∧e.ws=e.ws∧True)∧(((List.filter (Hea.q02 pt) book).getD (p_1.1:Int).toNat Cod.noG).1=((List.filter (Hea.q02 pt) book).getD (p_1.1:Int).toNat Cod.noG).1∧((List.filter (Hea.q02 pt) book).getD (p_1.1:Int).toNat Cod.noG).2.1=((List.filter (Hea.q02 pt) book).getD (p_1.1:Int).toNat Cod.noG).2.1∧((List.filter (Hea.q02 pt) book).getD (p_1.1:Int).toNat Cod.noG).2.2.1=((List.filter (Hea.q02 pt) book).getD (p_1.1:Int).toNat Cod.noG).2.2.1∧((List.filter (Hea.q02 pt) book).getD (p_1.1:Int).toNat Cod.noG).2.2.2.1=((List.filter (Hea.q02 pt) book).getD (p_1.1:Int).toNat Cod.noG).2.2.2.1∧((List.filter (Hea.q02 pt) book).getD (p_1.1:Int).toNat Cod.noG).2.2.2.2=((List.filter (Hea.q02 pt) book).getD (p_1.1:Int).toNat Cod.noG).2.2.2.2∧True)∧True)
abbrev q7h (book:q0d) (p':Nat×List (List UInt8)) (p_1:Nat×List (List UInt8)) (pt:Cod.Pt):Prop :=
 ((p_1.1:Int)+1=(p'.1:Int)∧True∧(↑(List.filter (Hea.q02 pt) book).length:Int)=(↑(List.filter (Hea.q02 pt) book).length:Int)∧True∧True∧True∧True∧True)
abbrev q7e (e:Cod.Ear) (p':Nat) (p_2:Nat×List (List UInt8)) (w:List (List UInt8)):Prop :=
 (p'≤(3:Nat)∧((1:Nat)≤p'→Hea.q3k (Hea.q06 e) p_2.2 w=false)∧((2:Nat)≤p'→Hea.q3v p_2.2 w=false)∧((3:Nat)≤p'→Hea.q3u p_2.2 w=false))
abbrev q91 (book:q0d) (p':Nat×List (List UInt8)) (p_1:Nat×List (List UInt8)) (pt:Cod.Pt) (w:List (List UInt8)):Prop :=
 (w=w∧p_1.2++[((List.filter (Hea.q02 pt) book).getD (p_1.1:Int).toNat Cod.noG).1]=p'.2∧List.filter (Hea.q02 pt) book=List.filter (Hea.q02 pt) book∧True)
abbrev q6c (e:Cod.Ear):Prop :=
 ((True∧True∧True)∧(e.c=e.c∧True)∧(e.lang=e.lang∧e.ws=e.ws∧True)∧True)
abbrev qcg (e:Cod.Ear) (p':Nat×Nat) (p_2:Nat×List (List UInt8)) (w:List (List UInt8)):Prop :=
 (p'.1≤w.length∧p'.2=(Hea.diff (List.take p'.1 p_2.2) (List.take p'.1 w)).length∧((Hea.diff (List.take p'.1 p_2.2) (List.take p'.1 w)).all λ(q:Hea.Str×Hea.Str)=>Hea.q06 e q.1 q.2)=true)
set_option maxRecDepth 100000 in
def q6x (e:Cod.Ear) (book:q0d) (pt:Cod.Pt) (w:List (List UInt8)) (R:List UInt8×Bool×Int):Prop :=
  ∀ (p_1:Nat×List (List UInt8)),p_1.1≤(List.filter (Hea.q02 pt) book).length∧p_1.2.length≤p_1.1∧Hea.q0i (Hea.q06 e) e.ws w (List.filter (Hea.q02 pt) book) []=Hea.q0i (Hea.q06 e) e.ws w (List.drop p_1.1 (List.filter (Hea.q02 pt) book)) p_1.2→bif decide ((p_1.1:Int)<(↑(List.filter (Hea.q02 pt) book).length:Int)) then (0≤(p_1.1:Int)∧(p_1.1:Int)<(↑(List.filter (Hea.q02 pt) book).length:Int))∧(∃ (p':Nat×List (List UInt8)),(p'.1≤((List.filter (Hea.q02 pt) book).getD (p_1.1:Int).toNat Cod.noG).2.1.length∧p'.2=Hea.ownW e.ws (List.take p'.1 ((List.filter (Hea.q02 pt) book).getD (p_1.1:Int).toNat Cod.noG).2.1))∧((0:Int)=(p'.1:Int)∧True∧True∧True∧True∧True∧True∧True∧(↑(List.filter (Hea.q02 pt) book).length:Int)=(↑(List.filter (Hea.q02 pt) book).length:Int)∧(p_1.1:Int)=(p_1.1:Int)∧((List.filter (Hea.q02 pt) book).getD (p_1.1:Int).toNat Cod.noG).2.1=((List.filter (Hea.q02 pt) book).getD (p_1.1:Int).toNat Cod.noG).2.1∧(↑((List.filter (Hea.q02 pt) book).getD (p_1.1:Int).toNat Cod.noG).2.1.length:Int)=(↑((List.filter (Hea.q02 pt) book).getD (p_1.1:Int).toNat Cod.noG).2.1.length:Int)∧True)∧(qiw book e p_1 pt)∧(p'.2=[]∧w=w∧p_1.2=p_1.2∧List.filter (Hea.q02 pt) book=List.filter (Hea.q02 pt) book∧True)∧True∧True∧True∧True∧True∧True∧True)∧∀ (p_2:Nat×List (List UInt8)),p_2.1≤((List.filter (Hea.q02 pt) book).getD (p_1.1:Int).toNat Cod.noG).2.1.length∧p_2.2=Hea.ownW e.ws (List.take p_2.1 ((List.filter (Hea.q02 pt) book).getD (p_1.1:Int).toNat Cod.noG).2.1)→bif decide ((p_2.1:Int)<(↑((List.filter (Hea.q02 pt) book).getD (p_1.1:Int).toNat Cod.noG).2.1.length:Int)) then (0≤(p_2.1:Int)∧(p_2.1:Int)<(↑((List.filter (Hea.q02 pt) book).getD (p_1.1:Int).toNat Cod.noG).2.1.length:Int))∧((0:Int)≤((List.filter (Hea.q02 pt) book).getD (p_1.1:Int).toNat Cod.noG).2.1.getD (p_2.1:Int).toNat (0:Int)∧((List.filter (Hea.q02 pt) book).getD (p_1.1:Int).toNat Cod.noG).2.1.getD (p_2.1:Int).toNat 0<(e.ws.length:Int))∧(p_2.2.length+[e.ws.getD (((List.filter (Hea.q02 pt) book).getD (p_1.1:Int).toNat Cod.noG).2.1.getD (p_2.1:Int).toNat (0:Int)).toNat []].length)*(16:Nat)≤(140737488355328:Nat)∧(zFit ((p_2.1:Int)+1))∧∃ (p':Nat×List (List UInt8)),(p'.1≤((List.filter (Hea.q02 pt) book).getD (p_1.1:Int).toNat Cod.noG).2.1.length∧p'.2=Hea.ownW e.ws (List.take p'.1 ((List.filter (Hea.q02 pt) book).getD (p_1.1:Int).toNat Cod.noG).2.1))∧((List.filter (Hea.q02 pt) book).getD (p_1.1:Int).toNat Cod.noG).2.1.length-p'.1<((List.filter (Hea.q02 pt) book).getD (p_1.1:Int).toNat Cod.noG).2.1.length-p_2.1∧((p_2.1:Int)+1=(p'.1:Int)∧True∧True∧True∧True∧True∧True∧True∧(↑(List.filter (Hea.q02 pt) book).length:Int)=(↑(List.filter (Hea.q02 pt) book).length:Int)∧(p_1.1:Int)=(p_1.1:Int)∧((List.filter (Hea.q02 pt) book).getD (p_1.1:Int).toNat Cod.noG).2.1=((List.filter (Hea.q02 pt) book).getD (p_1.1:Int).toNat Cod.noG).2.1∧(↑((List.filter (Hea.q02 pt) book).getD (p_1.1:Int).toNat Cod.noG).2.1.length:Int)=(↑((List.filter (Hea.q02 pt) book).getD (p_1.1:Int).toNat Cod.noG).2.1.length:Int)∧True)∧(qiw book e p_1 pt)∧(p_2.2++[e.ws.getD (((List.filter (Hea.q02 pt) book).getD (p_1.1:Int).toNat Cod.noG).2.1.getD (p_2.1:Int).toNat (0:Int)).toNat []]=p'.2∧w=w∧p_1.2=p_1.2∧List.filter (Hea.q02 pt) book=List.filter (Hea.q02 pt) book∧True)∧True∧True∧True∧True∧True∧True∧True else (p_2.2.length≤(1000000:Nat)∧w.length≤(1000000:Nat))∧bif p_2.2==w then (((List.filter (Hea.q02 pt) book).getD (p_1.1:Int).toNat Cod.noG).1,false,(0:Int))=R else (∃ (p':Nat),(q7e e p' p_2 w)∧((0:Int)=(p':Int)∧True∧True∧(↑[((102:Nat),[(nat_lit 30011,nat_lit 0)].length,[(nat_lit 30011,nat_lit 0)]++[]),((103:Nat),[(nat_lit 30011,nat_lit 0)].length,[(nat_lit 30011,nat_lit 0)]++[]),((104:Nat),[(nat_lit 30011,nat_lit 0)].length,[(nat_lit 30011,nat_lit 0)]++[])].length:Int)=(↑[((102:Nat),[(nat_lit 30011,nat_lit 0)].length,[(nat_lit 30011,nat_lit 0)]++[]),((103:Nat),[(nat_lit 30011,nat_lit 0)].length,[(nat_lit 30011,nat_lit 0)]++[]),((104:Nat),[(nat_lit 30011,nat_lit 0)].length,[(nat_lit 30011,nat_lit 0)]++[])].length:Int)∧True)∧(q20 book e p_1 pt)∧(q27 book p_1 p_2 pt w)∧True∧True∧(q7c book p_1 pt)∧True∧True∧True∧True)∧∀ (p_3:Nat),p_3≤(3:Nat)∧((1:Nat)≤p_3→Hea.q3k (Hea.q06 e) p_2.2 w=false)∧((2:Nat)≤p_3→Hea.q3v p_2.2 w=false)∧((3:Nat)≤p_3→Hea.q3u p_2.2 w=false)→bif decide ((p_3:Int)<(↑[((102:Nat),[(nat_lit 30011,nat_lit 0)].length,[(nat_lit 30011,nat_lit 0)]++[]),((103:Nat),[(nat_lit 30011,nat_lit 0)].length,[(nat_lit 30011,nat_lit 0)]++[]),((104:Nat),[(nat_lit 30011,nat_lit 0)].length,[(nat_lit 30011,nat_lit 0)]++[])].length:Int)) then (0≤(p_3:Int)∧(p_3:Int)<(↑[((102:Nat),[(nat_lit 30011,nat_lit 0)].length,[(nat_lit 30011,nat_lit 0)]++[]),((103:Nat),[(nat_lit 30011,nat_lit 0)].length,[(nat_lit 30011,nat_lit 0)]++[]),((104:Nat),[(nat_lit 30011,nat_lit 0)].length,[(nat_lit 30011,nat_lit 0)]++[])].length:Int))∧((p_3:Int)=(↑(nat_lit 0):Int)→bif (p_2.2.length:Int) != (w.length:Int) then (zFit ((p_3:Int)+1))∧∃ (p':Nat),(q7e e p' p_2 w)∧(3:Nat)-p'<(3:Nat)-p_3∧(q9n p' p_3)∧(q20 book e p_1 pt)∧(q27 book p_1 p_2 pt w)∧True∧True∧(q7c book p_1 pt)∧True∧True∧True∧True else (∃ (p':Nat×Nat),(qcg e p' p_2 w)∧((0:Int)=(p'.1:Int)∧(0:Int)=(p'.2:Int)∧True∧True∧True∧(w.length:Int)=(w.length:Int)∧True)∧(q20 book e p_1 pt)∧(q27 book p_1 p_2 pt w)∧True∧True∧(q3p book p_1 p_3 pt)∧True∧True∧True∧True)∧∀ (p_4:Nat×Nat),p_4.1≤w.length∧p_4.2=(Hea.diff (List.take p_4.1 p_2.2) (List.take p_4.1 w)).length∧((Hea.diff (List.take p_4.1 p_2.2) (List.take p_4.1 w)).all λ(q:Hea.Str×Hea.Str)=>Hea.q06 e q.1 q.2)=true→bif decide ((p_4.1:Int)<(w.length:Int)) then (0≤(p_4.1:Int)∧(p_4.1:Int)<(w.length:Int))∧(0≤(p_4.1:Int)∧(p_4.1:Int)<(p_2.2.length:Int))∧bif !w.getD (p_4.1:Int).toNat []==p_2.2.getD (p_4.1:Int).toNat [] then (zFit ((p_4.2:Int)+1))∧(0≤(p_4.1:Int)∧(p_4.1:Int)<(p_2.2.length:Int))∧(q0o e.c∧(p_2.2.getD (p_4.1:Int).toNat []).length≤(1000000:Nat)∧(w.getD (p_4.1:Int).toNat []).length≤(1000000:Nat))∧bif !Snd.q2a e.c (p_2.2.getD (p_4.1:Int).toNat []) (w.getD (p_4.1:Int).toNat []) then (zFit ((p_3:Int)+1))∧∃ (p':Nat),(q7e e p' p_2 w)∧(3:Nat)-p'<(3:Nat)-p_3∧(q9n p' p_3)∧(q20 book e p_1 pt)∧(q27 book p_1 p_2 pt w)∧True∧True∧(q7c book p_1 pt)∧True∧True∧True∧True else (zFit ((p_4.1:Int)+1))∧∃ (p':Nat×Nat),(qcg e p' p_2 w)∧w.length-p'.1<w.length-p_4.1∧((p_4.1:Int)+1=(p'.1:Int)∧(p_4.2:Int)+1=(p'.2:Int)∧True∧True∧True∧(w.length:Int)=(w.length:Int)∧True)∧(q20 book e p_1 pt)∧(q27 book p_1 p_2 pt w)∧True∧True∧(q3p book p_1 p_3 pt)∧True∧True∧True∧True else (zFit ((p_4.1:Int)+1))∧∃ (p':Nat×Nat),(qcg e p' p_2 w)∧w.length-p'.1<w.length-p_4.1∧((p_4.1:Int)+1=(p'.1:Int)∧(p_4.2:Int)=(p'.2:Int)∧True∧True∧True∧(w.length:Int)=(w.length:Int)∧True)∧(q20 book e p_1 pt)∧(q27 book p_1 p_2 pt w)∧True∧True∧(q3p book p_1 p_3 pt)∧True∧True∧True∧True else bif (p_4.2:Int)==(1:Int) then (p_1.2.length+[((List.filter (Hea.q02 pt) book).getD (p_1.1:Int).toNat Cod.noG).1].length)*(16:Nat)≤(140737488355328:Nat)∧(zFit ((p_1.1:Int)+1))∧∃ (p':Nat×List (List UInt8)),(q7m book e p' pt w)∧(List.filter (Hea.q02 pt) book).length-p'.1<(List.filter (Hea.q02 pt) book).length-p_1.1∧(q7h book p' p_1 pt)∧(q6c e)∧(q91 book p' p_1 pt w)∧True∧True∧True∧True∧True∧True∧True else (zFit ((p_3:Int)+1))∧∃ (p':Nat),(q7e e p' p_2 w)∧(3:Nat)-p'<(3:Nat)-p_3∧(q9n p' p_3)∧(q20 book e p_1 pt)∧(q27 book p_1 p_2 pt w)∧True∧True∧(q7c book p_1 pt)∧True∧True∧True∧True)∧((p_3:Int)=(↑(nat_lit 1):Int)→(∃ (p':Nat),(p'≤p_2.2.length∧∀ (i:Nat),i<p'→(p_2.2.eraseIdx i==w)=false)∧((0:Int)=(p':Int)∧True∧True∧(p_2.2.length:Int)=(p_2.2.length:Int)∧True)∧(q20 book e p_1 pt)∧(q27 book p_1 p_2 pt w)∧True∧True∧(q3p book p_1 p_3 pt)∧True∧True∧True∧True)∧∀ (p_4:Nat),(p_4≤p_2.2.length∧∀ (i:Nat),i<p_4→(p_2.2.eraseIdx i==w)=false)→bif decide ((p_4:Int)<(p_2.2.length:Int)) then (zFit ((p_4:Int)+1))∧(p_2.2.length≤(1000000:Nat)∧(((p_4:Int)+1=(p_4:Int)+1∧0≤(p_4:Int)∧(p_4:Int)<(p_2.2.length:Int))∧((p_2.2.eraseIdx (p_4:Int).toNat).length≤(1000000:Nat)∧w.length≤(1000000:Nat))∧bif p_2.2.eraseIdx (p_4:Int).toNat==w then (p_1.2.length+[((List.filter (Hea.q02 pt) book).getD (p_1.1:Int).toNat Cod.noG).1].length)*(16:Nat)≤(140737488355328:Nat)∧(zFit ((p_1.1:Int)+1))∧∃ (p':Nat×List (List UInt8)),(q7m book e p' pt w)∧(List.filter (Hea.q02 pt) book).length-p'.1<(List.filter (Hea.q02 pt) book).length-p_1.1∧(q7h book p' p_1 pt)∧(q6c e)∧(q91 book p' p_1 pt w)∧True∧True∧True∧True∧True∧True∧True else (zFit ((p_4:Int)+1))∧∃ (p':Nat),(p'≤p_2.2.length∧∀ (i:Nat),i<p'→(p_2.2.eraseIdx i==w)=false)∧p_2.2.length-p'<p_2.2.length-p_4∧((p_4:Int)+1=(p':Int)∧True∧True∧(p_2.2.length:Int)=(p_2.2.length:Int)∧True)∧(q20 book e p_1 pt)∧(q27 book p_1 p_2 pt w)∧True∧True∧(q3p book p_1 p_3 pt)∧True∧True∧True∧True)∧((p_4:Int)+1=(p_4:Int)+1∧0≤(p_4:Int)∧(p_4:Int)<(p_2.2.length:Int))∧((p_2.2.eraseIdx (p_4:Int).toNat).length≤(1000000:Nat)∧w.length≤(1000000:Nat))∧bif p_2.2.eraseIdx (p_4:Int).toNat==w then (p_1.2.length+[((List.filter (Hea.q02 pt) book).getD (p_1.1:Int).toNat Cod.noG).1].length)*(16:Nat)≤(140737488355328:Nat)∧(zFit ((p_1.1:Int)+1))∧∃ (p':Nat×List (List UInt8)),(q7m book e p' pt w)∧(List.filter (Hea.q02 pt) book).length-p'.1<(List.filter (Hea.q02 pt) book).length-p_1.1∧(q7h book p' p_1 pt)∧(q6c e)∧(q91 book p' p_1 pt w)∧True∧True∧True∧True∧True∧True∧True else (zFit ((p_4:Int)+1))∧∃ (p':Nat),(p'≤p_2.2.length∧∀ (i:Nat),i<p'→(p_2.2.eraseIdx i==w)=false)∧p_2.2.length-p'<p_2.2.length-p_4∧((p_4:Int)+1=(p':Int)∧True∧True∧(p_2.2.length:Int)=(p_2.2.length:Int)∧True)∧(q20 book e p_1 pt)∧(q27 book p_1 p_2 pt w)∧True∧True∧(q3p book p_1 p_3 pt)∧True∧True∧True∧True)∧p_2.2.length≤(1000000:Nat)∧((p_4:Int)+1=(p_4:Int)+1∧0≤(p_4:Int)∧(p_4:Int)<(p_2.2.length:Int))∧((p_2.2.eraseIdx (p_4:Int).toNat).length≤(1000000:Nat)∧w.length≤(1000000:Nat))∧bif p_2.2.eraseIdx (p_4:Int).toNat==w then (p_1.2.length+[((List.filter (Hea.q02 pt) book).getD (p_1.1:Int).toNat Cod.noG).1].length)*(16:Nat)≤(140737488355328:Nat)∧(zFit ((p_1.1:Int)+1))∧∃ (p':Nat×List (List UInt8)),(q7m book e p' pt w)∧(List.filter (Hea.q02 pt) book).length-p'.1<(List.filter (Hea.q02 pt) book).length-p_1.1∧(q7h book p' p_1 pt)∧(q6c e)∧(q91 book p' p_1 pt w)∧True∧True∧True∧True∧True∧True∧True else (zFit ((p_4:Int)+1))∧∃ (p':Nat),(p'≤p_2.2.length∧∀ (i:Nat),i<p'→(p_2.2.eraseIdx i==w)=false)∧p_2.2.length-p'<p_2.2.length-p_4∧((p_4:Int)+1=(p':Int)∧True∧True∧(p_2.2.length:Int)=(p_2.2.length:Int)∧True)∧(q20 book e p_1 pt)∧(q27 book p_1 p_2 pt w)∧True∧True∧(q3p book p_1 p_3 pt)∧True∧True∧True∧True else (zFit ((p_3:Int)+1))∧∃ (p':Nat),(q7e e p' p_2 w)∧(3:Nat)-p'<(3:Nat)-p_3∧(q9n p' p_3)∧(q20 book e p_1 pt)∧(q27 book p_1 p_2 pt w)∧True∧True∧(q7c book p_1 pt)∧True∧True∧True∧True)∧((p_3:Int)=(↑(nat_lit 2):Int)→(zFit ((p_2.2.length:Int)-1))∧(∃ (p':Nat),(p'≤p_2.2.length-(1:Nat)∧∀ (i:Nat),i<p'→(Hea.q15 p_2.2 i==w&&p_2.2.getD i [] != p_2.2.getD (i+(1:Nat)) [])=false)∧((0:Int)=(p':Int)∧True∧True∧(p_2.2.length:Int)-1=(p_2.2.length:Int)-1∧True)∧(q20 book e p_1 pt)∧(q27 book p_1 p_2 pt w)∧True∧True∧(q3p book p_1 p_3 pt)∧True∧True∧True∧True)∧∀ (p_4:Nat),(p_4≤p_2.2.length-(1:Nat)∧∀ (i:Nat),i<p_4→(Hea.q15 p_2.2 i==w&&p_2.2.getD i [] != p_2.2.getD (i+(1:Nat)) [])=false)→bif decide ((p_4:Int)<(p_2.2.length:Int)-1) then p_2.2.length≤(1000000:Nat)∧((zFit ((p_4:Int)+1))∧(0≤(p_4:Int)+1∧(p_4:Int)+1<(p_2.2.length:Int))∧(0≤(p_4:Int)∧(p_4:Int)<(p_2.2.length:Int))∧(0≤(p_4:Int)∧(p_4:Int)<(p_2.2.length:Int))∧(zFit ((p_4:Int)+1))∧bif (p_4:Int).toNat.beq (p_4:Int).toNat then (0≤(p_4:Int)+1∧(p_4:Int)+1<(↑(p_2.2.set (p_4:Int).toNat (p_2.2.getD ((p_4:Int)+1).toNat [])).length:Int))∧bif ((p_4:Int)+1).toNat.beq ((p_4:Int)+1).toNat then ∃ (p':Unit),True∧(True∧True∧(p_4:Int)=(p_4:Int)∧True∧(p_2.2.length:Int)-1=(p_2.2.length:Int)-1∧(p_4:Int)=(p_4:Int)∧True)∧(q20 book e p_1 pt)∧((p_2.2.set (p_4:Int).toNat (p_2.2.getD ((p_4:Int)+1).toNat [])).set ((p_4:Int)+1).toNat (p_2.2.getD (p_4:Int).toNat [])=Hea.q15 p_2.2 (p_4:Int).toNat∧w=w∧p_1.2=p_1.2∧p_2.2=p_2.2∧List.filter (Hea.q02 pt) book=List.filter (Hea.q02 pt) book∧True)∧True∧True∧(q3p book p_1 p_3 pt)∧True∧True∧True∧True else False else False)∧∀ (p_5:Unit),True→((Hea.q15 p_2.2 (p_4:Int).toNat).length≤(1000000:Nat)∧w.length≤(1000000:Nat))∧bif Hea.q15 p_2.2 (p_4:Int).toNat==w then (0≤(p_4:Int)∧(p_4:Int)<(p_2.2.length:Int))∧(zFit ((p_4:Int)+1))∧(0≤(p_4:Int)+1∧(p_4:Int)+1<(p_2.2.length:Int))∧bif !p_2.2.getD (p_4:Int).toNat []==p_2.2.getD ((p_4:Int)+1).toNat [] then (p_1.2.length+[((List.filter (Hea.q02 pt) book).getD (p_1.1:Int).toNat Cod.noG).1].length)*(16:Nat)≤(140737488355328:Nat)∧(zFit ((p_1.1:Int)+1))∧∃ (p':Nat×List (List UInt8)),(q7m book e p' pt w)∧(List.filter (Hea.q02 pt) book).length-p'.1<(List.filter (Hea.q02 pt) book).length-p_1.1∧(q7h book p' p_1 pt)∧(q6c e)∧(q91 book p' p_1 pt w)∧True∧True∧True∧True∧True∧True∧True else (zFit ((p_4:Int)+1))∧∃ (p':Nat),(p'≤p_2.2.length-(1:Nat)∧∀ (i:Nat),i<p'→(Hea.q15 p_2.2 i==w&&p_2.2.getD i [] != p_2.2.getD (i+(1:Nat)) [])=false)∧p_2.2.length-(1:Nat)-p'<p_2.2.length-(1:Nat)-p_4∧((p_4:Int)+1=(p':Int)∧True∧True∧(p_2.2.length:Int)-1=(p_2.2.length:Int)-1∧True)∧(q20 book e p_1 pt)∧(q27 book p_1 p_2 pt w)∧True∧True∧(q3p book p_1 p_3 pt)∧True∧True∧True∧True else (zFit ((p_4:Int)+1))∧∃ (p':Nat),(p'≤p_2.2.length-(1:Nat)∧∀ (i:Nat),i<p'→(Hea.q15 p_2.2 i==w&&p_2.2.getD i [] != p_2.2.getD (i+(1:Nat)) [])=false)∧p_2.2.length-(1:Nat)-p'<p_2.2.length-(1:Nat)-p_4∧((p_4:Int)+1=(p':Int)∧True∧True∧(p_2.2.length:Int)-1=(p_2.2.length:Int)-1∧True)∧(q20 book e p_1 pt)∧(q27 book p_1 p_2 pt w)∧True∧True∧(q3p book p_1 p_3 pt)∧True∧True∧True∧True else (zFit ((p_3:Int)+1))∧∃ (p':Nat),(q7e e p' p_2 w)∧(3:Nat)-p'<(3:Nat)-p_3∧(q9n p' p_3)∧(q20 book e p_1 pt)∧(q27 book p_1 p_2 pt w)∧True∧True∧(q7c book p_1 pt)∧True∧True∧True∧True) else (zFit ((p_1.1:Int)+1))∧∃ (p':Nat×List (List UInt8)),(q7m book e p' pt w)∧(List.filter (Hea.q02 pt) book).length-p'.1<(List.filter (Hea.q02 pt) book).length-p_1.1∧(q7h book p' p_1 pt)∧(q6c e)∧(w=w∧p_1.2=p'.2∧List.filter (Hea.q02 pt) book=List.filter (Hea.q02 pt) book∧True)∧True∧True∧True∧True∧True∧True∧True else bif (p_1.2.length:Int)==(0:Int) then ([],false,(10:Int))=R else bif (p_1.2.length:Int)==(1:Int) then ((0:Int)≤0∧0<(p_1.2.length:Int))∧(p_1.2.getD (nat_lit 0) [],true,(0:Int))=R else ([],false,(8:Int))=R
abbrev qel (e:Cod.Ear) (pt:Cod.Pt):Prop :=
 ((e.lang=e.lang∧e.ws=e.ws∧True)∧(pt.1=pt.1∧pt.2=pt.2∧True)∧(True∧True∧True)∧(e.c=e.c∧True)∧True)
set_option maxRecDepth 100000 in
def DelR1 (e:Cod.Ear) (book:q0d) (pt:Cod.Pt) (w:List (List UInt8)) (R:List UInt8×Bool×Int):Prop :=
  ∀ (p_1:Nat×Nat×q0d),q46 book pt p_1.1 p_1.2.1 p_1.2.2→bif decide ((p_1.2.1:Int)<(↑(List.length p_1.2.2):Int)) then (0≤(p_1.2.1:Int)∧(p_1.2.1:Int)<(↑(List.length p_1.2.2):Int))∧bif !(List.getD p_1.2.2 (p_1.2.1:Int).toNat Cod.noG).2.2.1 then (zFit ((p_1.2.1:Int)+1))∧∃ (p':Nat×Nat×q0d),q46 book pt p'.1 p'.2.1 p'.2.2∧List.length book-p'.2.1<List.length book-p_1.2.1∧((p_1.1:Int)=(p'.1:Int)∧(p_1.2.1:Int)+1=(p'.2.1:Int)∧True∧True∧True)∧(qel e pt)∧(p_1.2.2=p'.2.2∧w=w∧True)∧True∧True∧(True∧True∧(e.lang=e.lang∧e.ws=e.ws∧True)∧True)∧True∧True∧True∧True else True∧bif !decide ((250000:Int)<Cod.q2f (List.getD p_1.2.2 (p_1.2.1:Int).toNat Cod.noG).2.2.2 pt) then (0≤(p_1.1:Int)∧(p_1.1:Int)<(↑(List.length p_1.2.2):Int))∧bif (p_1.1:Int).toNat.beq (p_1.1:Int).toNat then (zFit ((p_1.1:Int)+1))∧(zFit ((p_1.2.1:Int)+1))∧∃ (p':Nat×Nat×q0d),q46 book pt p'.1 p'.2.1 p'.2.2∧List.length book-p'.2.1<List.length book-p_1.2.1∧((p_1.1:Int)+1=(p'.1:Int)∧(p_1.2.1:Int)+1=(p'.2.1:Int)∧True∧True∧True)∧(qel e pt)∧(List.set p_1.2.2 (p_1.1:Int).toNat (List.getD p_1.2.2 (p_1.2.1:Int).toNat Cod.noG)=p'.2.2∧w=w∧True)∧True∧True∧(True∧True∧(e.lang=e.lang∧e.ws=e.ws∧True)∧True)∧True∧True∧True∧True else False else (zFit ((p_1.2.1:Int)+1))∧∃ (p':Nat×Nat×q0d),q46 book pt p'.1 p'.2.1 p'.2.2∧List.length book-p'.2.1<List.length book-p_1.2.1∧((p_1.1:Int)=(p'.1:Int)∧(p_1.2.1:Int)+1=(p'.2.1:Int)∧True∧True∧True)∧(qel e pt)∧(p_1.2.2=p'.2.2∧w=w∧True)∧True∧True∧(True∧True∧(e.lang=e.lang∧e.ws=e.ws∧True)∧True)∧True∧True∧True∧True else (0≤(p_1.1:Int)∧(p_1.1:Int)<(↑(List.length p_1.2.2):Int))∧(0≤(p_1.1:Int)∧(p_1.1:Int)≤(↑(List.take (p_1.1:Int).toNat p_1.2.2++List.replicate (List.length p_1.2.2-(p_1.1:Int).toNat) Cod.noG).length:Int))∧(∃ (p':Nat×List (List UInt8)),(p'.1≤(List.filter (Hea.q02 pt) book).length∧p'.2.length≤p'.1∧Hea.q0i (Hea.q06 e) e.ws w (List.filter (Hea.q02 pt) book) []=Hea.q0i (Hea.q06 e) e.ws w (List.drop p'.1 (List.filter (Hea.q02 pt) book)) p'.2)∧((0:Int)=(p'.1:Int)∧True∧(↑(List.take (p_1.1:Int).toNat (List.take (p_1.1:Int).toNat p_1.2.2++List.replicate (List.length p_1.2.2-(p_1.1:Int).toNat) Cod.noG)).length:Int)=(↑(List.filter (Hea.q02 pt) book).length:Int)∧True∧True∧True∧True∧True)∧((True∧True∧True)∧(e.c=e.c∧True)∧(e.lang=e.lang∧e.ws=e.ws∧True)∧True)∧(w=w∧p'.2=[]∧List.take (p_1.1:Int).toNat (List.take (p_1.1:Int).toNat p_1.2.2++List.replicate (List.length p_1.2.2-(p_1.1:Int).toNat) Cod.noG)=List.filter (Hea.q02 pt) book∧True)∧True∧True∧True∧True∧True∧True∧True)∧q6x e book pt w (R)
abbrev qeb (e:Cod.Ear) (pt:Cod.Pt):Prop :=
 ((e.lang=e.lang∧e.ws=e.ws∧True)∧(pt.1=pt.1∧pt.2=pt.2∧True)∧(True∧True∧True)∧(e.c=e.c∧True)∧True)
set_option maxRecDepth 100000 in
def DelR2 (e:Cod.Ear) (book:q0d) (pt:Cod.Pt) (w:List (List UInt8)) (R:List UInt8×Bool×Int):Prop :=
  ∀ (p_1:Nat×Nat×q0d),q46 book pt p_1.1 p_1.2.1 p_1.2.2→bif decide ((p_1.2.1:Int)<(↑(List.length p_1.2.2):Int)) then (0≤(p_1.2.1:Int)∧(p_1.2.1:Int)<(↑(List.length p_1.2.2):Int))∧bif !(List.getD p_1.2.2 (p_1.2.1:Int).toNat Cod.noG).2.2.1 then (zFit ((p_1.2.1:Int)+1))∧∃ (p':Nat×Nat×q0d),q46 book pt p'.1 p'.2.1 p'.2.2∧List.length book-p'.2.1<List.length book-p_1.2.1∧((p_1.1:Int)=(p'.1:Int)∧(p_1.2.1:Int)+1=(p'.2.1:Int)∧True∧True∧True)∧(qeb e pt)∧(p_1.2.2=p'.2.2∧w=w∧True)∧True∧True∧(True∧True∧True∧True)∧True∧True∧True∧True else True∧bif !decide ((250000:Int)<Cod.q2f (List.getD p_1.2.2 (p_1.2.1:Int).toNat Cod.noG).2.2.2 pt) then (0≤(p_1.1:Int)∧(p_1.1:Int)<(↑(List.length p_1.2.2):Int))∧bif (p_1.1:Int).toNat.beq (p_1.1:Int).toNat then (zFit ((p_1.1:Int)+1))∧(zFit ((p_1.2.1:Int)+1))∧∃ (p':Nat×Nat×q0d),q46 book pt p'.1 p'.2.1 p'.2.2∧List.length book-p'.2.1<List.length book-p_1.2.1∧((p_1.1:Int)+1=(p'.1:Int)∧(p_1.2.1:Int)+1=(p'.2.1:Int)∧True∧True∧True)∧(qeb e pt)∧(List.set p_1.2.2 (p_1.1:Int).toNat (List.getD p_1.2.2 (p_1.2.1:Int).toNat Cod.noG)=p'.2.2∧w=w∧True)∧True∧True∧(True∧True∧True∧True)∧True∧True∧True∧True else False else (zFit ((p_1.2.1:Int)+1))∧∃ (p':Nat×Nat×q0d),q46 book pt p'.1 p'.2.1 p'.2.2∧List.length book-p'.2.1<List.length book-p_1.2.1∧((p_1.1:Int)=(p'.1:Int)∧(p_1.2.1:Int)+1=(p'.2.1:Int)∧True∧True∧True)∧(qeb e pt)∧(p_1.2.2=p'.2.2∧w=w∧True)∧True∧True∧(True∧True∧True∧True)∧True∧True∧True∧True else (0≤(p_1.1:Int)∧(p_1.1:Int)<(↑(List.length p_1.2.2):Int))∧(0≤(p_1.1:Int)∧(p_1.1:Int)≤(↑(List.take (p_1.1:Int).toNat p_1.2.2++List.replicate (List.length p_1.2.2-(p_1.1:Int).toNat) Cod.noG).length:Int))∧(∃ (p':Nat×List (List UInt8)),(p'.1≤(List.filter (Hea.q02 pt) book).length∧p'.2.length≤p'.1∧Hea.q0i (Hea.q06 e) e.ws w (List.filter (Hea.q02 pt) book) []=Hea.q0i (Hea.q06 e) e.ws w (List.drop p'.1 (List.filter (Hea.q02 pt) book)) p'.2)∧((0:Int)=(p'.1:Int)∧True∧(↑(List.take (p_1.1:Int).toNat (List.take (p_1.1:Int).toNat p_1.2.2++List.replicate (List.length p_1.2.2-(p_1.1:Int).toNat) Cod.noG)).length:Int)=(↑(List.filter (Hea.q02 pt) book).length:Int)∧True∧True∧True∧True∧True)∧((True∧True∧True)∧(e.c=e.c∧True)∧(e.lang=e.lang∧e.ws=e.ws∧True)∧True)∧(w=w∧p'.2=[]∧List.take (p_1.1:Int).toNat (List.take (p_1.1:Int).toNat p_1.2.2++List.replicate (List.length p_1.2.2-(p_1.1:Int).toNat) Cod.noG)=List.filter (Hea.q02 pt) book∧True)∧True∧True∧True∧True∧True∧True∧True)∧q6x e book pt w (R)
abbrev qir (book:q0d) (e:Cod.Ear) (p_1:Nat) (pt:Cod.Pt) (w:List (List UInt8)):Prop :=
 (∃ (p':Nat×Nat×q0d),q46 book pt p'.1 p'.2.1 p'.2.2∧((p_1:Int)=(p'.1:Int)∧(p_1:Int)+1=(p'.2.1:Int)∧True∧True∧True)∧((e.lang=e.lang∧e.ws=e.ws∧True)∧(pt.1=pt.1∧pt.2=pt.2∧True)∧(True∧True∧True)∧(e.c=e.c∧True)∧True)∧(book=p'.2.2∧w=w∧True)∧True∧True∧(True∧True∧(e.lang=e.lang∧e.ws=e.ws∧True)∧True)∧True∧True∧True∧True)
set_option maxRecDepth 100000 in
def FarR1 (e:Cod.Ear) (book:q0d) (pt:Cod.Pt) (w:List (List UInt8)) (R:List UInt8×Bool×Int):Prop :=
  (∃ (p':Nat),(p'≤List.length book∧(List.take p' book).all (Hea.q02 pt)=true)∧((0:Int)=(p':Int)∧True∧True∧(↑(List.length book):Int)=(↑(List.length book):Int)∧True)∧((e.lang=e.lang∧e.ws=e.ws∧True)∧(pt.1=pt.1∧pt.2=pt.2∧True)∧(True∧True∧True)∧(e.c=e.c∧True)∧True)∧(book=book∧w=w∧True)∧True∧True∧(True∧True∧True∧True∧(e.lang=e.lang∧e.ws=e.ws∧True)∧True)∧True∧True∧True∧True)∧∀ (p_1:Nat),p_1≤List.length book∧(List.take p_1 book).all (Hea.q02 pt)=true→bif decide ((p_1:Int)<(↑(List.length book):Int)) then (0≤(p_1:Int)∧(p_1:Int)<(↑(List.length book):Int))∧bif !(List.getD book (p_1:Int).toNat Cod.noG).2.2.1 then (zFit ((p_1:Int)+1))∧(qir book e p_1 pt w)∧DelR1 e book pt w (R) else True∧bif decide ((250000:Int)<Cod.q2f (List.getD book (p_1:Int).toNat Cod.noG).2.2.2 pt) then (zFit ((p_1:Int)+1))∧(qir book e p_1 pt w)∧DelR1 e book pt w (R) else (zFit ((p_1:Int)+1))∧∃ (p':Nat),(p'≤List.length book∧(List.take p' book).all (Hea.q02 pt)=true)∧List.length book-p'<List.length book-p_1∧((p_1:Int)+1=(p':Int)∧True∧True∧(↑(List.length book):Int)=(↑(List.length book):Int)∧True)∧((e.lang=e.lang∧e.ws=e.ws∧True)∧(pt.1=pt.1∧pt.2=pt.2∧True)∧(True∧True∧True)∧(e.c=e.c∧True)∧True)∧(book=book∧w=w∧True)∧True∧True∧(True∧True∧True∧True∧(e.lang=e.lang∧e.ws=e.ws∧True)∧True)∧True∧True∧True∧True else (∃ (p':Nat×List (List UInt8)),(p'.1≤(List.filter (Hea.q02 pt) book).length∧p'.2.length≤p'.1∧Hea.q0i (Hea.q06 e) e.ws w (List.filter (Hea.q02 pt) book) []=Hea.q0i (Hea.q06 e) e.ws w (List.drop p'.1 (List.filter (Hea.q02 pt) book)) p'.2)∧((0:Int)=(p'.1:Int)∧True∧(↑(List.length book):Int)=(↑(List.filter (Hea.q02 pt) book).length:Int)∧True∧True∧True∧True∧True)∧((True∧True∧True)∧(e.c=e.c∧True)∧(e.lang=e.lang∧e.ws=e.ws∧True)∧True)∧(w=w∧p'.2=[]∧book=List.filter (Hea.q02 pt) book∧True)∧True∧True∧True∧True∧True∧True∧True)∧q6x e book pt w (R)
abbrev qj8 (book:q0d) (e:Cod.Ear) (p_1:Nat) (pt:Cod.Pt) (w:List (List UInt8)):Prop :=
 (∃ (p':Nat×Nat×q0d),q46 book pt p'.1 p'.2.1 p'.2.2∧((p_1:Int)=(p'.1:Int)∧(p_1:Int)+1=(p'.2.1:Int)∧True∧True∧True)∧((e.lang=e.lang∧e.ws=e.ws∧True)∧(pt.1=pt.1∧pt.2=pt.2∧True)∧(True∧True∧True)∧(e.c=e.c∧True)∧True)∧(book=p'.2.2∧w=w∧True)∧True∧True∧(True∧True∧True∧True)∧True∧True∧True∧True)
set_option maxRecDepth 100000 in
def FarR2 (e:Cod.Ear) (book:q0d) (pt:Cod.Pt) (w:List (List UInt8)) (R:List UInt8×Bool×Int):Prop :=
  (∃ (p':Nat),(p'≤List.length book∧(List.take p' book).all (Hea.q02 pt)=true)∧((0:Int)=(p':Int)∧True∧True∧(↑(List.length book):Int)=(↑(List.length book):Int)∧True)∧((e.lang=e.lang∧e.ws=e.ws∧True)∧(pt.1=pt.1∧pt.2=pt.2∧True)∧(True∧True∧True)∧(e.c=e.c∧True)∧True)∧(book=book∧w=w∧True)∧True∧True∧(True∧True∧True∧True∧True∧True)∧True∧True∧True∧True)∧∀ (p_1:Nat),p_1≤List.length book∧(List.take p_1 book).all (Hea.q02 pt)=true→bif decide ((p_1:Int)<(↑(List.length book):Int)) then (0≤(p_1:Int)∧(p_1:Int)<(↑(List.length book):Int))∧bif !(List.getD book (p_1:Int).toNat Cod.noG).2.2.1 then (zFit ((p_1:Int)+1))∧(qj8 book e p_1 pt w)∧DelR2 e book pt w (R) else True∧bif decide ((250000:Int)<Cod.q2f (List.getD book (p_1:Int).toNat Cod.noG).2.2.2 pt) then (zFit ((p_1:Int)+1))∧(qj8 book e p_1 pt w)∧DelR2 e book pt w (R) else (zFit ((p_1:Int)+1))∧∃ (p':Nat),(p'≤List.length book∧(List.take p' book).all (Hea.q02 pt)=true)∧List.length book-p'<List.length book-p_1∧((p_1:Int)+1=(p':Int)∧True∧True∧(↑(List.length book):Int)=(↑(List.length book):Int)∧True)∧((e.lang=e.lang∧e.ws=e.ws∧True)∧(pt.1=pt.1∧pt.2=pt.2∧True)∧(True∧True∧True)∧(e.c=e.c∧True)∧True)∧(book=book∧w=w∧True)∧True∧True∧(True∧True∧True∧True∧True∧True)∧True∧True∧True∧True else (∃ (p':Nat×List (List UInt8)),(p'.1≤(List.filter (Hea.q02 pt) book).length∧p'.2.length≤p'.1∧Hea.q0i (Hea.q06 e) e.ws w (List.filter (Hea.q02 pt) book) []=Hea.q0i (Hea.q06 e) e.ws w (List.drop p'.1 (List.filter (Hea.q02 pt) book)) p'.2)∧((0:Int)=(p'.1:Int)∧True∧(↑(List.length book):Int)=(↑(List.filter (Hea.q02 pt) book).length:Int)∧True∧True∧True∧True∧True)∧((True∧True∧True)∧(e.c=e.c∧True)∧(e.lang=e.lang∧e.ws=e.ws∧True)∧True)∧(w=w∧p'.2=[]∧book=List.filter (Hea.q02 pt) book∧True)∧True∧True∧True∧True∧True∧True∧True)∧q6x e book pt w (R)
theorem findR_ok {e:Cod.Ear} {book:q0d} {pt:Cod.Pt} {w:List (List UInt8)} {R:List UInt8×Bool×Int} (hp:e.proper book=true) (hC:q0o e.c) (hW:∀ s∈e.ws,s.length≤1000000) (hw:w.length≤5) (hwl:∀ s∈w,s.length≤1000000) (hB:book.length≤1000000)
  (hR:R=Hea.q0i (Hea.q06 e) e.ws w (book.filter (Hea.q02 pt)) []):q6x e book pt w R:=by
 unfold q6x
 delta q20 q3p q9n q27 q7m q7c qiw q7h q7e q91 q6c qcg zFit
 simp only [true_and,and_true];exact (qkf e (book.filter (Hea.q02 pt)) w R _ rfl (Hea.ql4 hp _) hC hW hw hwl (Nat.le_trans (List.length_filter_le _ _) hB) hR).2
theorem del_step {book:q0d} {pt:Cod.Pt} {k j:Nat} {l:q0d} (h:q46 book pt k j l) (hj:j<book.length):l.getD j Cod.noG=book.getD j Cod.noG∧(Hea.q02 pt (l.getD j Cod.noG)=false→q46 book pt k (j+1) l)∧(Hea.q02 pt (l.getD j Cod.noG)=true→q46 book pt (k+1) (j+1) (l.set k (l.getD j Cod.noG))):=by
 obtain ⟨h1,h2,h3,h4,h5⟩:=h;have hg:l.getD j Cod.noG=book.getD j Cod.noG:=by
  have:=congrArg (λz=>List.getD z 0 Cod.noG) h5
  simpa using this
 have hdrop:l.drop (j+1)=book.drop (j+1):=by
  have:=congrArg (List.drop 1) h5
  rwa [List.drop_drop,List.drop_drop] at this
 refine ⟨hg,λhn=>?_,λhn=>?_⟩
 ·refine ⟨by omega,hj,h3,?_,hdrop⟩
  rw [Snd.q1f book Cod.noG j hj,List.filter_append,← hg,List.filter_cons_of_neg (by rw [hn];decide),List.filter_nil,List.append_nil,h4]
 ·refine ⟨by omega,hj,by rw [List.length_set];exact h3,?_,?_⟩
  ·rw [Snd.q1f book Cod.noG j hj,List.filter_append,← hg,List.filter_cons_of_pos hn,List.filter_nil,← h4,Snd.q1f (l.set k (l.getD j Cod.noG)) Cod.noG k (by rw [List.length_set];omega),List.take_set_of_le (Nat.le_refl _)]
   congr 2
   rw [List.getD_eq_getElem?_getD (l:=l.set k _),List.getElem?_set_self (by omega)];rfl
  ·rw [List.drop_set_of_lt (by omega),hdrop]
theorem del1_ok {e:Cod.Ear} {book:q0d} {pt:Cod.Pt} {w:List (List UInt8)} {R:List UInt8×Bool×Int} (hb:book.length≤1000000) (hF:q6x e book pt w R):DelR1 e book pt w R:=by
 unfold DelR1
 delta qel zFit
 simp only [true_and,and_true];rintro ⟨k,j,l⟩ hd;have hd:q46 book pt k j l:=hd;obtain ⟨h1,h2,h3,h4,h5⟩:=hd;dsimp only;have hti:((k:Int).toNat)=k:=rfl;have htj:((j:Int).toNat)=j:=rfl;simp only [hti,htj];refine bifP (λhb2=>?_) λhb2=>?_
 ·have hj:j<book.length:=by have:=of_decide_eq_true hb2;omega
  obtain ⟨hg,hst0,hst1⟩:=del_step ⟨h1,h2,h3,h4,h5⟩ hj;refine ⟨⟨by omega,by omega⟩,bifP (λhp=>?_) λhp=>bifP (λhq=>?_) λhq=>?_⟩
  ·refine ⟨⟨by omega,by omega⟩,(k,j+1,l),hst0 ?_,by show book.length-(j+1)<book.length-j;omega,⟨rfl,by push_cast;rfl⟩,rfl⟩
   unfold Hea.q02;rw [show (l.getD j Cod.noG).2.2.1=false by simpa using hp];rfl
  ·have hn:Hea.q02 pt (l.getD j Cod.noG)=true:=by
    unfold Hea.q02 Cod.ptOf;rw [show (l.getD j Cod.noG).2.2.1=true by simpa using hp,decide_eq_true (p:=Cod.q2f (l.getD j Cod.noG).2.2.2 pt≤250000) (by
     have:decide (250000<Cod.q2f (l.getD j Cod.noG).2.2.2 pt)=false:=by simpa using hq
     have:=of_decide_eq_false this;omega)];rfl
   refine ⟨⟨by omega,by omega⟩,?_⟩
   rw [show k.beq k=true from Nat.beq_refl k,cond_true];exact ⟨⟨by omega,by omega⟩,⟨by omega,by omega⟩,(k+1,j+1,l.set k (l.getD j Cod.noG)),hst1 hn,by show book.length-(j+1)<book.length-j;omega,⟨by push_cast;rfl,by push_cast;rfl⟩,rfl⟩
  ·refine ⟨⟨by omega,by omega⟩,(k,j+1,l),hst0 ?_,by show book.length-(j+1)<book.length-j;omega,⟨rfl,by push_cast;rfl⟩,rfl⟩
   unfold Hea.q02 Cod.ptOf;have:decide (250000<Cod.q2f (l.getD j Cod.noG).2.2.2 pt)=true:=by simpa using hq
   rw [decide_eq_false (p:=Cod.q2f (l.getD j Cod.noG).2.2.2 pt≤250000) (by have:=of_decide_eq_true this;omega),Bool.and_false]
 ·have hle:l.length≤j:=by have:=of_decide_eq_false hb2;omega
  have hfl:book.filter (Hea.q02 pt)=l.take k:=by rw [h4,List.take_of_length_le (by omega)]
  have hlen:(l.take k++List.replicate (l.length-k) Cod.noG).length=l.length:=by rw [List.length_append,List.length_take,List.length_replicate];omega
  have htk:(l.take k++List.replicate (l.length-k) Cod.noG).take k=l.take k:=by rw [List.take_append_of_le_length (by rw [List.length_take];omega),List.take_take,Nat.min_self]
  refine ⟨⟨by omega,by omega⟩,⟨by omega,by rw [hlen];omega⟩,⟨(0,[]),⟨Nat.zero_le _,Nat.le_refl _,rfl⟩,⟨rfl,by rw [htk,hfl]⟩,rfl,by rw [htk,hfl]⟩,hF⟩
theorem del2_ok {e:Cod.Ear} {book:q0d} {pt:Cod.Pt} {w:List (List UInt8)} {R:List UInt8×Bool×Int} (hb:book.length≤1000000) (hF:q6x e book pt w R):DelR2 e book pt w R:=by
 unfold DelR2
 delta qeb zFit
 simp only [true_and,and_true];rintro ⟨k,j,l⟩ hd;have hd:q46 book pt k j l:=hd;obtain ⟨h1,h2,h3,h4,h5⟩:=hd;dsimp only;have hti:((k:Int).toNat)=k:=rfl;have htj:((j:Int).toNat)=j:=rfl;simp only [hti,htj];refine bifP (λhb2=>?_) λhb2=>?_
 ·have hj:j<book.length:=by have:=of_decide_eq_true hb2;omega
  obtain ⟨hg,hst0,hst1⟩:=del_step ⟨h1,h2,h3,h4,h5⟩ hj;refine ⟨⟨by omega,by omega⟩,bifP (λhp=>?_) λhp=>bifP (λhq=>?_) λhq=>?_⟩
  ·refine ⟨⟨by omega,by omega⟩,(k,j+1,l),hst0 ?_,by show book.length-(j+1)<book.length-j;omega,⟨rfl,by push_cast;rfl⟩,rfl⟩
   unfold Hea.q02;rw [show (l.getD j Cod.noG).2.2.1=false by simpa using hp];rfl
  ·have hn:Hea.q02 pt (l.getD j Cod.noG)=true:=by
    unfold Hea.q02 Cod.ptOf;rw [show (l.getD j Cod.noG).2.2.1=true by simpa using hp,decide_eq_true (p:=Cod.q2f (l.getD j Cod.noG).2.2.2 pt≤250000) (by
     have:decide (250000<Cod.q2f (l.getD j Cod.noG).2.2.2 pt)=false:=by simpa using hq
     have:=of_decide_eq_false this;omega)];rfl
   refine ⟨⟨by omega,by omega⟩,?_⟩
   rw [show k.beq k=true from Nat.beq_refl k,cond_true];exact ⟨⟨by omega,by omega⟩,⟨by omega,by omega⟩,(k+1,j+1,l.set k (l.getD j Cod.noG)),hst1 hn,by show book.length-(j+1)<book.length-j;omega,⟨by push_cast;rfl,by push_cast;rfl⟩,rfl⟩
  ·refine ⟨⟨by omega,by omega⟩,(k,j+1,l),hst0 ?_,by show book.length-(j+1)<book.length-j;omega,⟨rfl,by push_cast;rfl⟩,rfl⟩
   unfold Hea.q02 Cod.ptOf;have:decide (250000<Cod.q2f (l.getD j Cod.noG).2.2.2 pt)=true:=by simpa using hq
   rw [decide_eq_false (p:=Cod.q2f (l.getD j Cod.noG).2.2.2 pt≤250000) (by have:=of_decide_eq_true this;omega),Bool.and_false]
 ·have hle:l.length≤j:=by have:=of_decide_eq_false hb2;omega
  have hfl:book.filter (Hea.q02 pt)=l.take k:=by rw [h4,List.take_of_length_le (by omega)]
  have hlen:(l.take k++List.replicate (l.length-k) Cod.noG).length=l.length:=by rw [List.length_append,List.length_take,List.length_replicate];omega
  have htk:(l.take k++List.replicate (l.length-k) Cod.noG).take k=l.take k:=by rw [List.take_append_of_le_length (by rw [List.length_take];omega),List.take_take,Nat.min_self]
  refine ⟨⟨by omega,by omega⟩,⟨by omega,by rw [hlen];omega⟩,⟨(0,[]),⟨Nat.zero_le _,Nat.le_refl _,rfl⟩,⟨rfl,by rw [htk,hfl]⟩,rfl,by rw [htk,hfl]⟩,hF⟩
theorem far1_ok {e:Cod.Ear} {book:q0d} {pt:Cod.Pt} {w:List (List UInt8)} {R:List UInt8×Bool×Int} (hb:book.length≤1000000) (hF:q6x e book pt w R) (hR:R=Hea.q0i (Hea.q06 e) e.ws w (book.filter (Hea.q02 pt)) []):FarR1 e book pt w R:=by
 unfold FarR1
 delta qir zFit
 simp only [true_and,and_true];refine ⟨⟨0,⟨Nat.zero_le _,rfl⟩,rfl⟩,?_⟩;rintro k ⟨hk,ha⟩;have hti:((k:Int).toNat)=k:=rfl;simp only [hti];refine bifP (λhb2=>?_) λhb2=>?_
 ·have hlt:k<book.length:=by have:=of_decide_eq_true hb2;omega
  have hst:∀ h:Hea.q02 pt (book.getD k Cod.noG)=false,q46 book pt k (k+1) book:=λh=>by
   refine ⟨by omega,hlt,rfl,?_,rfl⟩
   rw [Snd.q1f book Cod.noG k hlt,List.filter_append,List.filter_cons_of_neg (by rw [h];decide),List.filter_nil,List.append_nil,List.filter_eq_self.2 (List.all_eq_true.1 ha)]
  refine ⟨⟨by omega,by omega⟩,bifP (λhp=>?_) λhp=>bifP (λhd=>?_) λhd=>?_⟩
  ·refine ⟨⟨by omega,by omega⟩,⟨(k,k+1,book),hst ?_,⟨rfl,by push_cast;rfl⟩,rfl⟩,del1_ok hb hF⟩
   unfold Hea.q02;rw [show (book.getD k Cod.noG).2.2.1=false by simpa using hp];rfl
  ·refine ⟨⟨by omega,by omega⟩,⟨(k,k+1,book),hst ?_,⟨rfl,by push_cast;rfl⟩,rfl⟩,del1_ok hb hF⟩
   unfold Hea.q02 Cod.ptOf;rw [decide_eq_false (p:=Cod.q2f (book.getD k Cod.noG).2.2.2 pt≤250000) (by have:=of_decide_eq_true hd;omega),Bool.and_false]
  ·refine ⟨⟨by omega,by omega⟩,k+1,⟨hlt,?_⟩,by omega,by push_cast;rfl⟩
   rw [Snd.q44 book Cod.noG _ k hlt,ha,Bool.true_and];unfold Hea.q02 Cod.ptOf;rw [show (book.getD k Cod.noG).2.2.1=true by simpa using hp,decide_eq_true (p:=Cod.q2f (book.getD k Cod.noG).2.2.2 pt≤250000) (by have:=of_decide_eq_false hd;omega)];rfl
 ·have hle:book.length≤k:=by have:=of_decide_eq_false hb2;omega
  rw [Snd.q7y book _ k hle] at ha;have hfl:book.filter (Hea.q02 pt)=book:=List.filter_eq_self.2 (List.all_eq_true.1 ha);refine ⟨⟨(0,[]),⟨Nat.zero_le _,Nat.le_refl _,rfl⟩,⟨rfl,by rw [hfl]⟩,rfl,hfl.symm⟩,hF⟩
theorem far2_ok {e:Cod.Ear} {book:q0d} {pt:Cod.Pt} {w:List (List UInt8)} {R:List UInt8×Bool×Int} (hb:book.length≤1000000) (hF:q6x e book pt w R) (hR:R=Hea.q0i (Hea.q06 e) e.ws w (book.filter (Hea.q02 pt)) []):FarR2 e book pt w R:=by
 unfold FarR2
 delta qj8 zFit
 simp only [true_and,and_true];refine ⟨⟨0,⟨Nat.zero_le _,rfl⟩,rfl⟩,?_⟩;rintro k ⟨hk,ha⟩;have hti:((k:Int).toNat)=k:=rfl;simp only [hti];refine bifP (λhb2=>?_) λhb2=>?_
 ·have hlt:k<book.length:=by have:=of_decide_eq_true hb2;omega
  have hst:∀ h:Hea.q02 pt (book.getD k Cod.noG)=false,q46 book pt k (k+1) book:=λh=>by
   refine ⟨by omega,hlt,rfl,?_,rfl⟩
   rw [Snd.q1f book Cod.noG k hlt,List.filter_append,List.filter_cons_of_neg (by rw [h];decide),List.filter_nil,List.append_nil,List.filter_eq_self.2 (List.all_eq_true.1 ha)]
  refine ⟨⟨by omega,by omega⟩,bifP (λhp=>?_) λhp=>bifP (λhd=>?_) λhd=>?_⟩
  ·refine ⟨⟨by omega,by omega⟩,⟨(k,k+1,book),hst ?_,⟨rfl,by push_cast;rfl⟩,rfl⟩,del2_ok hb hF⟩
   unfold Hea.q02;rw [show (book.getD k Cod.noG).2.2.1=false by simpa using hp];rfl
  ·refine ⟨⟨by omega,by omega⟩,⟨(k,k+1,book),hst ?_,⟨rfl,by push_cast;rfl⟩,rfl⟩,del2_ok hb hF⟩
   unfold Hea.q02 Cod.ptOf;rw [decide_eq_false (p:=Cod.q2f (book.getD k Cod.noG).2.2.2 pt≤250000) (by have:=of_decide_eq_true hd;omega),Bool.and_false]
  ·refine ⟨⟨by omega,by omega⟩,k+1,⟨hlt,?_⟩,by omega,by push_cast;rfl⟩
   rw [Snd.q44 book Cod.noG _ k hlt,ha,Bool.true_and];unfold Hea.q02 Cod.ptOf;rw [show (book.getD k Cod.noG).2.2.1=true by simpa using hp,decide_eq_true (p:=Cod.q2f (book.getD k Cod.noG).2.2.2 pt≤250000) (by have:=of_decide_eq_false hd;omega)];rfl
 ·have hle:book.length≤k:=by have:=of_decide_eq_false hb2;omega
  rw [Snd.q7y book _ k hle] at ha;have hfl:book.filter (Hea.q02 pt)=book:=List.filter_eq_self.2 (List.all_eq_true.1 ha);refine ⟨⟨(0,[]),⟨Nat.zero_le _,Nat.le_refl _,rfl⟩,⟨rfl,by rw [hfl]⟩,rfl,hfl.symm⟩,hF⟩
set_option maxRecDepth 100000 in
theorem here_vc (e:Cod.Ear) (book:q0d) (pt:Cod.Pt) (text:List UInt8) (h:cHere.pre ((e.lang,e.ws),e.c,book,pt,text)) :
  (q0y (e.lang,e.ws)∧q0o e.c∧q5k book)∧bif !e.proper book then ([],false,(1:Int))=Hea.q4x e book pt text else True∧bif !Cod.onB pt then ([],false,(1:Int)) =
  Hea.q4x e book pt text else (∃ (p':Bool×List UInt8×List (List UInt8)),q48 text p'.1 p'.2.1 p'.2.2∧(true=p'.1∧True∧True∧True)∧((text=p'.2.1∧True)∧(True∧True ∧
  True)∧(e.c=e.c∧True)∧(True∧True)∧(false=false∧True)∧(True∧True)∧(e.lang=e.lang∧e.ws=e.ws∧True)∧(pt.1=pt.1∧pt.2=pt.2∧True)∧True)∧(p'.2.2=[] ∧
  True)∧True∧True∧(True∧True∧True∧book=book∧True∧True∧True)∧True∧True∧True∧True∧(True∧True∧True∧True)∧True)∧∀ (p:Bool×List UInt8×List (List
  UInt8)),q48 text p.1 p.2.1 p.2.2→bif p.1 then (p.2.1.length≤(1000000:Nat)∧[(32:UInt8)]=[(32:UInt8)])∧(cutF p.2.1).1.length≤(1000000:Nat)∧bif (cutF p.2.1).1.any fun
  (c:UInt8)=>!Snd.letB c then ([],false,(5:Int))=Hea.q4x e book pt text else bif (cutF p.2.1).1==[] then ([],false,(5:Int))=Hea.q4x e book pt text else bif decide ((12 :
  Int)<(↑(cutF p.2.1).1.length:Int)) then ([],false,(5:Int))=Hea.q4x e book pt text else bif (p.2.2.length:Int)==(5:Int) then ([],false,(5:Int))=Hea.q4x e book pt
  text else ((p.2.2.length+[(cutF p.2.1).1].length)*(16:Nat)≤(140737488355328:Nat)∧∃ (p':Bool×List UInt8×List (List UInt8)),q48 text p'.1 p'.2.1 p'.2.2∧((if p'.1=true
  then p'.2.1.length+(1:Nat) else (0:Nat))<if p.1=true then p.2.1.length+(1:Nat) else (0:Nat))∧((cutF p.2.1).2.2=p'.1∧True∧True∧True)∧(((cutF p.2.1).2.1=p'.2.1 ∧
  True)∧(True∧True∧True)∧(e.c=e.c∧True)∧(True∧True)∧(false=false∧True)∧(True∧True)∧(e.lang=e.lang∧e.ws=e.ws∧True)∧(pt.1=pt.1∧pt.2=pt.2∧True) ∧
  True)∧(p.2.2++[(cutF p.2.1).1]=p'.2.2∧True)∧True∧True∧(True∧True∧True∧book=book∧True∧True∧True)∧True∧True∧True∧True∧(True∧True∧True∧True)∧True)
  ∧ ((p.2.2.length+[(cutF p.2.1).1].length)*(16:Nat)≤(140737488355328:Nat)∧∃ (p':Bool×List UInt8×List (List UInt8)),q48 text p'.1 p'.2.1 p'.2.2∧((if p'.1=true then
  p'.2.1.length+(1:Nat) else (0:Nat))<if p.1=true then p.2.1.length+(1:Nat) else (0:Nat))∧((cutF p.2.1).2.2=p'.1∧True∧True∧True)∧(((cutF p.2.1).2.1=p'.2.1∧True)
  ∧ (True∧True∧True)∧(e.c=e.c∧True)∧(True∧True)∧(false=false∧True)∧(True∧True)∧(e.lang=e.lang∧e.ws=e.ws∧True)∧(pt.1=pt.1∧pt.2=pt.2∧True)∧True) ∧
  (p.2.2++[(cutF p.2.1).1]=p'.2.2∧True)∧True∧True∧(True∧True∧True∧book=book∧True∧True∧True)∧True∧True∧True∧True∧(True∧True∧True∧True)∧True) ∧
  (p.2.2.length+[(cutF p.2.1).1].length)*(16:Nat)≤(140737488355328:Nat)∧∃ (p':Bool×List UInt8×List (List UInt8)),q48 text p'.1 p'.2.1 p'.2.2∧((if p'.1=true then
  p'.2.1.length+(1:Nat) else (0:Nat))<if p.1=true then p.2.1.length+(1:Nat) else (0:Nat))∧((cutF p.2.1).2.2=p'.1∧True∧True∧True)∧(((cutF p.2.1).2.1=p'.2.1∧True)
  ∧ (True∧True∧True)∧(e.c=e.c∧True)∧(True∧True)∧(false=false∧True)∧(True∧True)∧(e.lang=e.lang∧e.ws=e.ws∧True)∧(pt.1=pt.1∧pt.2=pt.2∧True)∧True) ∧
  (p.2.2++[(cutF p.2.1).1]=p'.2.2∧True)∧True∧True∧(True∧True∧True∧book=book∧True∧True∧True)∧True∧True∧True∧True∧(True∧True∧True∧True)∧True else
  (List.length book≤(1000000:Nat)∧FarR1 e book pt p.2.2 (Hea.q4x e book pt text))∧List.length book≤(1000000:Nat)∧(FarR1 e book pt p.2.2 (Hea.q4x e book pt text))∧FarR2 e
  book pt p.2.2 (Hea.q4x e book pt text)
  := by
 obtain ⟨hW,hC,hB,hT⟩:=h;have hT:text.length≤1000:=hT;simp only [true_and,and_true];refine ⟨⟨hW,hC,hB⟩,bifP (λhb=>?_) λhb=>?_⟩
 ·unfold Hea.q4x
  rw [show e.proper book=false by simpa using hb];rfl
 have hp:e.proper book=true:=by simpa using hb
 refine bifP (λhb=>?_) λhb=>?_
 ·unfold Hea.q4x
  rw [hp,show Cod.onB pt=false by simpa using hb];rfl
 have ho:Cod.onB pt=true:=by simpa using hb
 have hh:Hea.q4x e book pt text=match Hea.q7b text with
   | none=>([],false,5)
   | some words=>Hea.q0i (Hea.q06 e) e.ws words (book.filter (Hea.q02 pt)) []:=by
  unfold Hea.q4x;rw [hp,ho];rfl
 refine ⟨⟨(true,text,[]),⟨rfl,rfl,Nat.zero_le _,Nat.le_refl _⟩,rfl,rfl,rfl⟩,?_⟩;rintro ⟨more,rest,w⟩ hlis;have hlis:q48 text more rest w:=hlis;have hlw:w.length≤5:=hlis.2.2.1;have hlr:rest.length≤text.length:=hlis.2.2.2;dsimp only;refine bifP (λhb=>?_) λhb=>?_
 ·obtain rfl:more=true:=hb
  have bad:Hea.q47 (cutF rest).1=false∨w.length=5→([],false,(5:Int))=Hea.q4x e book pt text:=λh=>by
   rw [hh,Hea.lis_bad hlis h]
  have hcl:(cutF rest).1.length≤1000000:=by
   unfold cutF;split
   ·dsimp only;rw [List.length_take];omega
   ·dsimp only;omega
  refine ⟨by omega,hcl,bifP (λhb=>bad (.inl (Hea.q9m (.inl hb)))) λh1=>bifP (λhb=>bad (.inl (Hea.q9m (.inr (.inl hb))))) λh2=>bifP (λhb=>bad (.inl (Hea.q9m (.inr (.inr (of_decide_eq_true hb)))))) λh3=>bifP (λhb=>bad (.inr (by have:=eq_of_beq hb;omega))) λh4=>?_⟩
  have h5:w.length<5:=by rw [beq_eq_false_iff_ne] at h4;omega
  have hst:=Hea.lis_step hlis (Hea.word_of h1 h2 (of_decide_eq_false h3)) h5;have hg:(w.length+[(cutF rest).1].length)*16≤140737488355328∧∃ p':Bool×List UInt8×List (List UInt8),q48 text p'.1 p'.2.1 p'.2.2∧((if p'.1=true then p'.2.1.length+1 else 0)<if true=true then rest.length+1 else 0)∧(cutF rest).2.2=p'.1∧(cutF rest).2.1=p'.2.1∧w++[(cutF rest).1]=p'.2.2 :=
   ⟨by rw [List.length_singleton];omega,((cutF rest).2.2,(cutF rest).2.1,w++[(cutF rest).1]),hst,Hea.lis_less,rfl,rfl,rfl⟩
  exact ⟨hg,hg,hg⟩
 ·obtain rfl:more=false:=hb
  have hv:Hea.q4x e book pt text=Hea.q0i (Hea.q06 e) e.ws w (book.filter (Hea.q02 pt)) []:=by rw [hh,Hea.lis_end hlis]
  have hwl:∀ s∈w,s.length≤1000000:=λs hs=>by
   have:=List.all_eq_true.1 hlis.2.1 s hs
   unfold Hea.q47 at this;simp only [Bool.and_eq_true,decide_eq_true_eq] at this;omega
  have hF:=findR_ok (pt:=pt) hp hC hW.2.2 hlw hwl hB.1 hv;exact ⟨⟨hB.1,far1_ok hB.1 hF hv⟩,hB.1,far1_ok hB.1 hF hv,far2_ok hB.1 hF hv⟩
theorem q0e.app {P:Program}:∀ {l m:List (Nat×Func)},q0e P l→q0e P m→q0e P (l++m)
 | [],m,_,h=>h
 | (k,fn)::l,m,hl,hm=>λf g hg=>by
  rw [List.cons_append,look?_cons] at hg;split at hg
  ·rename_i e
   subst e;exact hl k g (by rw [look?_cons,if_pos rfl];exact hg)
  ·rename_i hne
   by_cases hin:∃ y,look? f l=some y
   ·obtain ⟨y,hy⟩:=hin
    have:∀ {l m:List (Nat×Func)},look? f l=some y→look? f (l++m)=some y:=λ{l m} h=>by
     induction l with
     | nil=>cases h
     | cons z l ih =>
      obtain ⟨k2,f2⟩:=z;rw [List.cons_append,look?_cons];rw [look?_cons] at h;split
      ·rename_i e2;rw [if_pos e2] at h;exact h
      ·rename_i e2;rw [if_neg e2] at h;exact ih h
    rw [this hy] at hg;injection hg with hg;subst hg;exact hl f y (by rw [look?_cons,if_neg hne];exact hy)
   ·have:∀ {l m:List (Nat×Func)},(¬ ∃ y,look? f l=some y)→look? f (l++m)=look? f m:=λ{l m} h=>by
     induction l with
     | nil=>rfl
     | cons z l ih =>
      obtain ⟨k2,f2⟩:=z;rw [look?_cons] at h;rw [List.cons_append,look?_cons];split
      ·rename_i e2;exact absurd ⟨f2,by rw [if_pos e2]⟩ h
      ·rename_i e2
       refine ih λ⟨y,hy⟩=>h ⟨y,by rw [if_neg e2];exact hy⟩
    rw [this hin] at hg;exact hm f g hg
theorem kitHr_ok:kitHr.Ok Tryz.prog where
 cons:=all_cons qap (all_cons qii (all_cons cut_holds (all_cons (show cEqS.lent.Holds Tryz.prog from eqS_holds) (all_cons qiq (all_cons qjx all_nil)))))
 ns:=all_cons qgj (all_cons cloneG_holds all_nil)
 os:=all_cons qfh all_nil
 fcs:=all_cons qkk all_nil
 rcs:=all_nil
 inls:=q0e.app inlHe_ok (q0e.more Tryz.func53 (by kernel_rfl) (by kernel_rfl) (q0e.more Tryz.func54 (by kernel_rfl) (by kernel_rfl) (q0e.more Tryz.func108 (by kernel_rfl) (by kernel_rfl) q0e.nil)))
set_option maxRecDepth 100000000 in
theorem here_holds:cHere.Holds Tryz.prog:=by
 refine holdsX (T:=kitHr) (λp=>anHr ⟨p.1.1,p.1.2,p.2.1⟩ p.2.2.1 p.2.2.2.1 p.2.2.2.2) Tryz.func20 (by kernel_rfl) (by kernel_rfl) mixed (by kernel_rfl) kitHr_ok (λ_=>[qai 7]) λp hp=>?_
 obtain ⟨⟨lang,ws⟩,c,book,pt,text⟩:=p;refine cast ?_ (here_vc ⟨lang,ws,c⟩ book pt text hp)
 kernel_rfl
end Go.Proofs.YtfecgebhoondjaaGreatDoor
namespace Go.Proofs.YtfecgebhoondjaaGreatDoor
namespace Cod
theorem bump_app {n:Int}:∀ (a r:List Int),a.all (λd=>decide (n≤d+1))=true→bump n (a++r)=(List.replicate a.length 0++(bump n r).1,(bump n r).2)
 | [],r,_=>rfl
 | d::a,r,h=>by
  rw [List.all_cons,Bool.and_eq_true,decide_eq_true_eq] at h;rw [List.cons_append,bump,decide_eq_false (by omega),bump_app a r h.2]
  rfl
theorem all_rev {α:Type} (p:α→Bool) (l:List α):l.reverse.all p=l.all p:=List.all_reverse
theorem next_end {n:Int} {l:List Int} (ht:(l.drop (l.length-l.length)).all (λd=>decide (n≤d+1))=true):(nextL n l).2=false:=by
 rw [Nat.sub_self,List.drop_zero] at ht;unfold nextL;have:=bump_app l.reverse [] (by rw [all_rev];exact ht)
 rw [List.append_nil] at this;rw [this];rfl
end Cod
open Go.RowKit R
abbrev ckErr:CK:=.one (.int .i64)
def cMist:Con:=.of 32 [ckWl,ckCf,qd8] [ckLists,ckErr] (λp=>q0y p.1∧q0o p.2.1∧List.length p.2.2≤1000000) (λp=>Cod.Ear.q0v ⟨p.1.1,p.1.2,p.2.1⟩ p.2.2)
def ordL (l:List (List Int)):List (List Int):=l.mergeSort λa b=>decide (Cod.cmpL a b≤0)
def q0t:List (List Int)→List (List Int)
 | []=>[]
 | [x]=>[x]
 | x::y::r=>if x==y then q0t (y::r) else x::q0t (y::r)
def LongX (xs:List (List Int)):Prop:=xs.length≤1000000000∧∀ x∈xs,x.length≤1000000
def oSortL:OCon:={ f:=116,e:=40,fs:=kIs,args:=[],fa:=.fn 67,ret:=false,pre:=λxs _ _=>LongX xs,F:=λxs _ _=>ordL xs }
def oCompL:OCon:={ f:=68,e:=40,fs:=kIs,args:=[],fa:=.fn 69,ret:=true,pre:=λxs _ _=>LongX xs,F:=λxs _ _=>q0t xs }
noncomputable def inlMi:List (Nat×Func):=[(64,Tryz.f64),(66,Tryz.f66),(117,Tryz.f117),(118,Tryz.f118),(120,Tryz.f120),
 (65,Tryz.f65),(115,Tryz.f115),(149,Tryz.f149)]
noncomputable def kitMi:Kit:={ cons:=[qgt,cValid,cProper,cNear],ns:=[nClone],os:=[oDelete,oSortL,oCompL],inls:=inlMi }
def qgu (l:List (List Int)):Row:=⟨40,kIs,l⟩
abbrev miT:Nat:=29008005000
abbrev miR:Nat:=(miT+1)*1000+700+11
def R.Get.outAt (st:St):List (List Int):=match st.row miR with
 | some y=>match y.fs.deq kIs with
  | some ⟨h⟩=>q3a h y.xs
  | none=>[]
 | none=>[]
def R.Get.miNear (st:St):q04:=Get.mapOf (.one (.int .i64)) (.one (.sl (.one (.int .i64)))) 15007 st
def keepMi (live:List Nat) (ahead:List (Nat×List Nat)):Keep:={ live:=live,sav:=savK 0 (ahead++[(13,[2]),(5,[]),(12,[1])]),box:=[28002,28003,15010],lp:=[2] }
def overMi:List (Nat×List Cell):=[(miT+2,[.own miR])]
def anMiIter (e:Cod.Ear) (code:List Int):List (Nat×Ann) :=
 [annX 0 (Nat×q04×List (List Int))
    (λst p=>st.hd (keepMi [0,1,2,4,11,12] []) [(13,R.int .i64 p.1)] overMi [(miR,qgu p.2.2)] [(15007,q5v p.2.1)] none)
    (λ_ p=>p.1≤code.length∧q0q e p.2.1∧p.2.2=e.q0k code p.1 0)
    (λ_ p=>code.length-p.1),
 annX 2 (Nat×List (List Int))
    (λst p=>st.hd (keepMi [0,1,2,4,5,6,11,12,13,20,21] []) [(22,R.int .i64 p.1)] overMi [(miR,qgu p.2)] [(15007,q5v (Get.miNear st))] none)
    (λst p=>p.1≤(e.near (st.intOf 6)).length∧p.2=Get.outAt st++q1r e code (st.intOf 5).toNat p.1)
    (λst p=>(e.near (st.intOf 6)).length-p.1),
 annX 2000010 (List (List Int))
    (λst p=>st.hd (keepMi [0,1,2,4,5,6,11,12,13] []) [] overMi [(miR,qgu p)] [(15007,q5v (Get.miNear st))] none)
    (λst p=>p=Get.outAt st++[code.eraseIdx (st.intOf 5).toNat])
    (λ_ _=>0)]
def anMiHeard (e:Cod.Ear):List (Nat×Ann) :=
 [annX 2000005 (q04)
    (λst p=>st.hd (keepMi [] [(77,qh3)]) [(5,.c (.one (.val (.sl (.one (.int .i64))) (e.near (st.intOf 1)))))] overMi [(miR,qgu (Get.outAt st))] [(15007,q5v p)] none)
    (λ_ p=>q0q e p)
    (λ_ _=>0)]
def anMi (e:Cod.Ear) (code:List Int):Nat→List (Nat×Ann):=λf =>
 bif Nat.beq f 117 then anMiIter e code
 else bif Nat.beq f 120 then anMiHeard e
 else []
def anMist (e:Cod.Ear):List (Nat×Ann) :=
 [annX 2000002 Unit (λst _=>st.hd { live:=[2,3],sav:=[],box:=[3] } [(8,.c (.one (.ptr 15010 0))),(9,.c (.one (.val .bool (Snd.q0h e.lang e.ws&&Snd.q0l e.c))))] [(15010,[.val .str e.lang,.val (.sl (.one .str)) e.ws,.mref 15007,.val (.sl kCf) e.c])] [] [(15007,q5v [])] none) (λ_ _=>True) (λ_ _=>0)]
theorem le_trans3 {a b c:List Int} (h1:Cod.cmpL a b≤0) (h2:Cod.cmpL b c≤0):Cod.cmpL a c≤0:=by
 rcases Cod.qa6 a b with h | h | h
 ·rcases Cod.qa6 b c with h' | h' | h'
  ·have:=Cod.q3l (a:=a) (b:=b) (c:=c) (by omega) (by omega)
   omega
  ·rw [← Cod.cmp_eq h'];exact h1
  ·omega
 ·rw [Cod.cmp_eq h];exact h2
 ·omega
theorem ord_mem {l:List (List Int)} {x:List Int}:x∈ordL l↔x∈l:=by
 unfold ordL;exact List.mem_mergeSort
theorem ord_len (l:List (List Int)):(ordL l).length=l.length:=by
 unfold ordL;exact List.length_mergeSort l
theorem ord_up (l:List (List Int)):(ordL l).Pairwise λa b=>Cod.cmpL a b≤0:=by
 unfold ordL;have:=List.pairwise_mergeSort (le:=λa b=>decide (Cod.cmpL a b≤0)) (λa b c h1 h2=>decide_eq_true (le_trans3 (of_decide_eq_true h1) (of_decide_eq_true h2))) (λa b=>by
  have:=Cod.q5j a b
  rw [Bool.or_eq_true,decide_eq_true_eq,decide_eq_true_eq];omega) l
 exact this.imp λh=>of_decide_eq_true h
theorem qf1 {x:List Int}:∀ {l:List (List Int)},x∈q0t l↔x∈l
 | []=>Iff.rfl
 | [y]=>Iff.rfl
 | y::z::r=>by
  rw [q0t];split
  ·rename_i h
   have h:=beq_iff_eq.1 h;rw [qf1,h];simp
  ·have ih:=qf1 (x:=x) (l:=z::r)
   rw [List.mem_cons,ih];exact List.mem_cons.symm
theorem thin_up:∀ {l:List (List Int)},l.Pairwise (λa b=>Cod.cmpL a b≤0)→(q0t l).Pairwise λa b=>Cod.cmpL a b<0
 | [],_=>List.Pairwise.nil
 | [y],_=>List.pairwise_singleton _ _
 | y::z::r,h=>by
  rw [List.pairwise_cons] at h;rw [q0t];split
  ·exact thin_up h.2
  ·rename_i hne
   rw [List.pairwise_cons];refine ⟨λx hx=>?_,thin_up h.2⟩
   have hx:=qf1.1 hx;have h1:=h.1 x hx;rcases Cod.qa6 y x with h2 | h2 | h2
   ·omega
   ·have e:=Cod.cmp_eq h2
    subst e;have hz:=h.1 z (List.mem_cons_self ..);have hz2:Cod.cmpL z y≤0:=by
     rcases List.mem_cons.1 hx with e | hx
     ·rw [e,Cod.qe7];omega
     ·exact (List.pairwise_cons.1 h.2).1 y hx
    have ha:=Cod.q5j y z;have:Cod.cmpL y z=0:=by omega
    rw [Cod.cmp_eq this,beq_self_eq_true] at hne;exact absurd rfl hne
   ·omega
theorem thin_ord (l:List (List Int)):q0t (ordL l)=Cod.q8c l :=
 Cod.lists_ext (thin_up (ord_up l)) (Cod.sortU_up l) λx=>by rw [qf1,ord_mem,Cod.qg8]
theorem part_len (e:Cod.Ear) (code:List Int) (i k:Nat) (hw:e.ws.length≤1000000):(q1r e code i k).length≤1000000:=by
 unfold q1r;rw [List.length_map];have h1:=List.length_filter_le (λx=>!(x==code.getD i 0)) ((e.near (code.getD i 0)).take k)
 have h2:=qdw e (code.getD i 0);rw [List.length_take] at h1;omega
theorem qec (e:Cod.Ear) (code:List Int) (i:Nat) (hw:e.ws.length≤1000000):(e.q43 code i).length≤1000002:=by
 rw [qck (Nat.le_refl _),List.length_append,List.length_cons];have:=part_len e code i (e.near (code.getD i 0)).length hw;split
 ·rw [List.length_nil];omega
 ·rw [List.length_singleton];omega
theorem qg2 (e:Cod.Ear) (code:List Int) (hw:e.ws.length≤1000000):∀ k,(e.q0k code k 0).length≤k*1000002
 | 0=>by rw [Cod.Ear.q0k];simp
 | k+1=>by
  rw [q5n,List.length_append];have:=qg2 e code hw k;have:=qec e code k hw;omega
open Go.Lib
theorem cmp_at {xs ys:List Int} {k:Nat} (hx:k<xs.length) (hy:k<ys.length) (h:∀ j,j<k→xs.getD j 0=ys.getD j 0):Cod.cmpL xs ys=if xs.getD k 0<ys.getD k 0 then -1 else if ys.getD k 0<xs.getD k 0 then 1 else Cod.cmpL (xs.drop (k+1)) (ys.drop (k+1)):=by
 have ht:xs.take k=ys.take k:=by
  apply List.ext_getElem?
  intro i;by_cases hi:i<k
  ·rw [List.getElem?_take_of_lt hi,List.getElem?_take_of_lt hi]
   have:=h i hi
   rw [List.getD_eq_getElem?_getD,List.getD_eq_getElem?_getD,List.getElem?_eq_getElem (by omega),List.getElem?_eq_getElem (by omega)] at this
   rw [List.getElem?_eq_getElem (by omega),List.getElem?_eq_getElem (by omega)]
   exact congrArg some this
  ·rw [List.getElem?_eq_none (by rw [List.length_take];omega),List.getElem?_eq_none (by rw [List.length_take];omega)]
 rw [cmp_take ht,qcd xs hx,qcd ys hy,Cod.cmpL]
theorem qgy {xs ys:List Int} {k:Nat} (h:∀ j,j<k→xs.getD j 0=ys.getD j 0) (hx:k≤xs.length) (hy:k≤ys.length) (he:k=xs.length∨k=ys.length):Cod.cmpL xs ys=if xs.length<ys.length then -1 else if ys.length<xs.length then 1 else 0:=by
 have ht:xs.take k=ys.take k:=by
  apply List.ext_getElem?
  intro i;by_cases hi:i<k
  ·rw [List.getElem?_take_of_lt hi,List.getElem?_take_of_lt hi]
   have:=h i hi
   rw [List.getD_eq_getElem?_getD,List.getD_eq_getElem?_getD,List.getElem?_eq_getElem (by omega),List.getElem?_eq_getElem (by omega)] at this
   rw [List.getElem?_eq_getElem (by omega),List.getElem?_eq_getElem (by omega)]
   exact congrArg some this
  ·rw [List.getElem?_eq_none (by rw [List.length_take];omega),List.getElem?_eq_none (by rw [List.length_take];omega)]
 rw [cmp_take ht];by_cases h1:k<xs.length
 ·have e2:ys.drop k=[]:=List.drop_eq_nil_of_le (by omega)
  rw [qcd xs h1,e2,Cod.cmpL,if_neg (by omega),if_pos (by omega)]
 ·have e1:xs.drop k=[]:=List.drop_eq_nil_of_le (by omega)
  rw [e1];by_cases h2:k<ys.length
  ·rw [qcd ys h2,Cod.cmpL,if_pos (by omega)]
  ·have e2:ys.drop k=[]:=List.drop_eq_nil_of_le (by omega)
   rw [e2,Cod.cmpL,if_neg (by omega),if_neg (by omega)]
set_option maxHeartbeats 2000000 in
set_option maxRecDepth 100000 in
theorem compare_both (b1 o1 n c b2 o2 m d:Nat) (xs ys:List Int) (w:World) (hx1:n≤xs.length) (hx2:xs.length≤n) (hy1:m≤ys.length) (hy2:ys.length≤m) (hbig:n≤9223372036854775807) (hbig2:m≤9223372036854775807) (hc1:∀ j,j<xs.length→w.cell? ⟨b1,o1+j,none⟩=some (.int .i64 (xs.getD j 0))) (hc2:∀ j,j<ys.length→w.cell? ⟨b2,o2+j,none⟩=some (.int .i64 (ys.getD j 0))) :
  Calls Tryz.prog 67 #[.slice (some ⟨b1,o1,none⟩) n c,.slice (some ⟨b2,o2,none⟩) m d] w λe w'=>e=.returned (.int .i64 (Cod.cmpL xs ys))∧w'=w:=by
 go_enter Tryz.func67,Tryz.ntmps67
 go_wp2
 go_loopg [11] n (λg s11 wr=>∃ k:Nat,k≤n∧k≤m∧n-k≤g∧s11=.int .i64 k∧wr=w∧∀ j,j<k→xs.getD j 0=ys.getD j 0)
 case atStart=>exact ⟨0,Nat.zero_le _,Nat.zero_le _,by omega,rfl,rfl,λj hj=>absurd hj (Nat.not_lt_zero _)⟩
 case round =>
  obtain ⟨k,hk,hkm,hg,rfl,hw,heq⟩:=hrel;have hw:=hw.symm;subst hw;by_cases hlt:k<n
  ·by_cases hlm:k<m
   ·have g1:w.cell? ⟨b1,o1+k,none⟩=some (.int .i64 (xs.getD k 0)):=hc1 k (by omega)
    have g2:w.cell? ⟨b2,o2+k,none⟩=some (.int .i64 (ys.getD k 0)):=hc2 k (by omega)
    have hcm:=cmp_at (k:=k) (by omega) (by omega) heq
    have A:Aside (∀ j,j<k→xs.getD j 0=ys.getD j 0):=heq;clear heq hc1 hc2;generalize hxk:xs.getD k 0=x at g1 hcm;generalize hyk:ys.getD k 0=y at g2 hcm;have B:Aside (xs.getD k 0=x∧ys.getD k 0=y):=⟨hxk,hyk⟩;have C:Aside (Cod.cmpL xs ys=if x<y then -1 else if y<x then 1 else Cod.cmpL (xs.drop (k+1)) (ys.drop (k+1))):=hcm
    clear hxk hyk hcm;have call:=Tryz.cmp_Compare_int x y w;rcases Int.lt_trichotomy x y with hxy | hxy | hxy
    ·rw [show Lib.compareInt x y=-1 by unfold Lib.compareInt;rw [if_pos hxy]] at call
     go_wp2_with fail
     refine call.mono ?_;rintro e w' ⟨rfl,rfl⟩
     go_wp2
     go_ret
     rw [C.out,if_pos hxy];exact ⟨rfl,rfl⟩
    ·subst hxy
     rw [show Lib.compareInt x x=0 by unfold Lib.compareInt;rw [if_neg (by omega),if_neg (by omega)]] at call
     go_wp2_with fail
     refine call.mono ?_;rintro e w' ⟨rfl,rfl⟩
     go_wp2
     go_roundg (n-(k+1))
     case measure=>omega
     case rel =>
      refine ⟨k+1,by omega,by omega,by omega,by go_num,rfl,λj hj=>?_⟩
      by_cases e:j=k
      ·subst e
       rw [B.out.1,B.out.2]
      ·exact A.out j (by omega)
    ·rw [show Lib.compareInt x y=1 by unfold Lib.compareInt;rw [if_neg (by omega),if_pos hxy]] at call
     go_wp2_with fail
     refine call.mono ?_;rintro e w' ⟨rfl,rfl⟩
     go_wp2
     go_ret
     rw [C.out,if_neg (by omega),if_pos hxy]
     exact ⟨rfl,rfl⟩
   ·have hcm:=qgy heq (by omega) (by omega) (.inr (by omega))
    rw [if_neg (by omega),if_pos (by omega)] at hcm
    have g1:w.cell? ⟨b1,o1+k,none⟩=some (.int .i64 (xs.getD k 0)):=hc1 k (by omega)
    have C:Aside (Cod.cmpL xs ys=1):=hcm;clear heq hc1 hc2 hcm;generalize xs.getD k 0=x at g1
    go_wp2
    go_ret
    rw [C.out];exact ⟨rfl,rfl⟩
  ·have hcm:=qgy heq (by omega) (by omega) (.inl (by omega))
   have C:Aside (Cod.cmpL xs ys=if xs.length<ys.length then -1 else if ys.length<xs.length then 1 else 0):=hcm
   clear heq hc1 hc2 hcm;by_cases hnm:n<m
   ·go_wp2
    go_ret
    rw [C.out,if_pos (by omega)]
    exact ⟨rfl,rfl⟩
   ·go_wp2
    go_ret
    rw [C.out,if_neg (by omega),if_neg (by omega)]
    exact ⟨rfl,rfl⟩
set_option maxHeartbeats 2000000 in
set_option maxRecDepth 100000 in
theorem compare_none (A B:Option Addr) (c m d:Nat) (ys:List Int) (w:World) (hy1:m≤ys.length) (hy2:ys.length≤m) (hbig2:m≤9223372036854775807) :
  Calls Tryz.prog 67 #[.slice A 0 c,.slice B m d] w λe w'=>e=.returned (.int .i64 (Cod.cmpL [] ys))∧w'=w:=by
 have hcm:=qgy (xs:=[]) (ys:=ys) (k:=0) (λj hj=>absurd hj (Nat.not_lt_zero _)) (Nat.zero_le _) (Nat.zero_le _) (.inl rfl)
 have C:Aside (Cod.cmpL [] ys=if 0<ys.length then -1 else if ys.length<0 then 1 else 0):=hcm
 clear hcm
 go_enter Tryz.func67,Tryz.ntmps67
 go_wp2
 go_loopg [11] 0 (λg s11 wr=>s11=.int .i64 0∧wr=w)
 case atStart=>exact ⟨rfl,rfl⟩
 case round =>
  obtain ⟨rfl,hw⟩:=hrel;have hw:=hw.symm;subst hw;by_cases hnm:0<m
  ·go_wp2
   go_ret
   rw [C.out,if_pos (by omega)]
   exact ⟨rfl,rfl⟩
  ·go_wp2
   go_ret
   rw [C.out,if_neg (by omega),if_neg (by omega)]
   exact ⟨rfl,rfl⟩
set_option maxHeartbeats 2000000 in
set_option maxRecDepth 100000 in
theorem compare_some (b1 o1 n c:Nat) (B:Option Addr) (d:Nat) (xs:List Int) (w:World) (hx1:n≤xs.length) (hx2:xs.length≤n) (hn:0<n) (hbig:n≤9223372036854775807) (x:Int) (hc1:w.cell? ⟨b1,o1,none⟩=some (.int .i64 x)) :
  Calls Tryz.prog 67 #[.slice (some ⟨b1,o1,none⟩) n c,.slice B 0 d] w λe w'=>e=.returned (.int .i64 (Cod.cmpL xs []))∧w'=w:=by
 have hcm:=qgy (xs:=xs) (ys:=[]) (k:=0) (λj hj=>absurd hj (Nat.not_lt_zero _)) (Nat.zero_le _) (Nat.zero_le _) (.inr rfl)
 rw [List.length_nil,if_neg (Nat.not_lt_zero _),if_pos (by omega)] at hcm
 have C:Aside (Cod.cmpL xs []=1):=hcm;clear hcm
 go_enter Tryz.func67,Tryz.ntmps67
 go_wp2
 go_loopg [11] 0 (λg s11 wr=>s11=.int .i64 0∧wr=w)
 case atStart=>exact ⟨rfl,rfl⟩
 case round =>
  obtain ⟨rfl,hw⟩:=hrel;have hw:=hw.symm;subst hw
  go_wp2
  go_ret
  rw [C.out];exact ⟨rfl,rfl⟩
def IntsIn (w:World) (ok:Nat→Prop) (A:Option Addr) (n:Nat) (xs:List Int):Prop :=
 n=xs.length∧(0<n→∃ g off,A=some ⟨g,off,none⟩∧g<w.heap.size∧ok g∧∀ j,j<xs.length→w.cell? ⟨g,off+j,none⟩=some (.int .i64 (xs.getD j 0)))
theorem compare_any {ok:Nat→Prop} {A B:Option Addr} {n c m d:Nat} {xs ys:List Int} {w:World} (hn:n≤9223372036854775807) (hm:m≤9223372036854775807) (hx:IntsIn w ok A n xs) (hy:IntsIn w ok B m ys) :
  Calls Tryz.prog 67 #[.slice A n c,.slice B m d] w λe w'=>e=.returned (.int .i64 (Cod.cmpL xs ys))∧w'=w:=by
 obtain ⟨hx1,hx2⟩:=hx;obtain ⟨hy1,hy2⟩:=hy;by_cases h0:n=0
 ·subst h0
  obtain rfl:=List.eq_nil_of_length_eq_zero hx1.symm;exact compare_none A B c m d ys w (Nat.le_of_eq hy1) (Nat.le_of_eq hy1.symm) hm
 ·obtain ⟨g,off,rfl,_,_,hc⟩:=hx2 (Nat.pos_of_ne_zero h0)
  by_cases h1:m=0
  ·subst h1
   obtain rfl:=List.eq_nil_of_length_eq_zero hy1.symm;exact compare_some g off n c B d xs w (Nat.le_of_eq hx1) (Nat.le_of_eq hx1.symm) (Nat.pos_of_ne_zero h0) hn _ (hc 0 (hx1▸Nat.pos_of_ne_zero h0))
  ·obtain ⟨g2,off2,rfl,_,_,hc2⟩:=hy2 (Nat.pos_of_ne_zero h1)
   exact compare_both g off n c g2 off2 m d xs ys w (Nat.le_of_eq hx1) (Nat.le_of_eq hx1.symm) (Nat.le_of_eq hy1) (Nat.le_of_eq hy1.symm) hn hm hc hc2
open Go.Sort
structure SV (w:World) (S:Nat→Prop) where
 A:Option Addr
 c:Nat
 l:List Int
 small:l.length≤9223372036854775807
 cap:l.length≤c
 ok:IntsIn w S A l.length l
instance (w:World) (S:Nat→Prop):Inhabited (SV w S):=⟨⟨none,0,[],Nat.zero_le _,Nat.le_refl _,rfl,λh=>absurd h (Nat.lt_irrefl _)⟩⟩
def SV.enc {w:World} {S:Nat→Prop} (x:SV w S):Value:=.slice x.A x.l.length x.c
def SV.cf {w:World} {S:Nat→Prop} (x y:SV w S):Int:=Cod.cmpL x.l y.l
theorem heap_sorted {α:Type} [Inhabited α] (enc:α→Value) (w:World) (blk off m:Nat) (dk:Array α) (os:Array Obj) {g:Nat} (hg:g<w.heap.size) (hne:g≠blk):(sortWorld enc w blk off m dk os).heap[g]? = w.heap[g]? := by
 have:blk≠g:=λe=>hne e.symm
 simp [sortWorld,grow,putRow,mapBlock,Sort.ahead,Array.getElem?_append,Array.getElem?_modify,Array.getElem_modify,hg,this]
theorem qi7 {α:Type} [Inhabited α] (enc:α→Value) (w:World) (blk off m:Nat) (dk:Array α) (os:Array Obj) {g o:Nat} (hg:g<w.heap.size) (hne:g≠blk):(sortWorld enc w blk off m dk os).cell? ⟨g,o,none⟩=w.cell? ⟨g,o,none⟩:=by
 unfold World.cell?;rw [heap_sorted enc w blk off m dk os hg hne]
theorem qa0 {α:Type} [Inhabited α] (enc:α→Value) (w:World) (blk off m:Nat) (dk:Array α) (os:Array Obj):w.heap.size≤(sortWorld enc w blk off m dk os).heap.size:=by
 simp [sortWorld,grow,putRow,mapBlock,Sort.ahead]
theorem sv_lays (w:World) (S:Nat→Prop) (blk size:Nat) (hS:¬ S blk):CmpLays1 Tryz.prog 67 #[] (SV.enc (w:=w) (S:=S)) SV.cf blk 0 size w:=by
 intro m os dk hs x y;have kept:∀ q:SV w S,IntsIn (sortWorld SV.enc w blk 0 m dk os) (λ_=>True) q.A q.l.length q.l:=λq=>by
  refine ⟨rfl,λh=>?_⟩
  obtain ⟨g,off,e,hg,hs,hc⟩:=q.ok.2 h;have hne:g≠blk:=λe2=>hS (e2▸hs)
  exact ⟨g,off,e,Nat.lt_of_lt_of_le hg (qa0 ..),trivial,λj hj=>by rw [qi7 _ _ _ _ _ _ _ hg hne];exact hc j hj⟩
 refine (compare_any x.small y.small (kept x) (kept y)).mono ?_;rintro e w' ⟨rfl,rfl⟩;exact ⟨rfl,0,#[],by rw [grow_empty];rfl⟩
theorem sv_swo (w:World) (S:Nat→Prop):SWO (ltOf (SV.cf (w:=w) (S:=S))) where
 irrefl x:=by
  show decide (Cod.cmpL x.l x.l<0)=false;rw [Cod.qe7];rfl
 trans x y z h1 h2:=by
  have h1:Cod.cmpL x.l y.l<0:=of_decide_eq_true h1;have h2:Cod.cmpL y.l z.l<0:=of_decide_eq_true h2;exact decide_eq_true (Cod.q3l h1 h2)
 ntrans x y z h1 h2:=by
  have h1:¬ Cod.cmpL x.l y.l<0:=of_decide_eq_false h1;have h2:¬ Cod.cmpL y.l z.l<0:=of_decide_eq_false h2;have a1:=Cod.q5j x.l y.l;have a2:=Cod.q5j y.l z.l;have a3:=Cod.q5j x.l z.l;have:=le_trans3 (a:=z.l) (b:=y.l) (c:=x.l) (by omega) (by omega)
  show decide (Cod.cmpL x.l z.l<0)=false;exact decide_eq_false (by omega)
theorem qjw:∀ {l m:List (List Int)},l.Perm m→l.Pairwise (λa b=>Cod.cmpL a b≤0)→m.Pairwise (λa b=>Cod.cmpL a b≤0)→l=m
 | [],m,h,_,_=>(List.Perm.nil_eq h)
 | a::l,[],h,_,_=>absurd h.symm.nil_eq (by simp)
 | a::l,b::m,h,h1,h2=>by
  rw [List.pairwise_cons] at h1 h2;have hab:a=b:=by
   rcases List.mem_cons.1 (h.mem_iff.1 (List.mem_cons_self ..)) with e | ha
   ·exact e
   ·rcases List.mem_cons.1 (h.mem_iff.2 (List.mem_cons_self ..)) with e | hb
    ·exact e.symm
    ·have u1:=h1.1 b hb
     have u2:=h2.1 a ha;have:=Cod.q5j a b;exact Cod.cmp_eq (by omega)
  subst hab;rw [qjw ((List.perm_cons a).1 h) h1.2 h2.2]
theorem svs_of {w:World} {S:Nat→Prop}:∀ {xs:List (List Int)} {cells:List Value},cells.length=xs.length→(∀ (i:Nat) (x:List Int),xs[i]? = some x→∃ u,cells[i]? = some u∧∃ q:SV w S,q.enc=u∧q.l=x)→∃ ds:List (SV w S),ds.map SV.enc=cells∧ds.map SV.l=xs
 | [],cells,hl,_=>⟨[],(List.eq_nil_of_length_eq_zero hl).symm,rfl⟩
 | x::xs,[],hl,_=>by cases hl
 | x::xs,u::cells,hl,h=>by
  obtain ⟨ds,h1,h2⟩:=svs_of (xs:=xs) (cells:=cells) (by injection hl) (λi x hx=>h (i+1) x hx)
  obtain ⟨u',hu,q,hq1,hq2⟩:=h 0 x rfl;injection hu with hu;exact ⟨q::ds,by rw [List.map_cons,h1,hq1,hu],by rw [List.map_cons,h2,hq2]⟩
theorem sv_of {w:World} {S:Nat→Prop} {x:List Int} {u:Value} (h:(Kd.sl (.one (.int .i64))).Rep w S x u) (hx:x.length≤9223372036854775807):∃ q:SV w S,q.enc=u∧q.l=x:=by
 obtain ⟨A,c,rfl,hc,hrow⟩:=h;refine ⟨⟨A,c,x,hx,hc,rfl,λhp=>?_⟩,rfl,rfl⟩
 obtain ⟨g,off,e,hg,hs,hcells⟩:=hrow hp;refine ⟨g,off,e,hg,hs,λj hj=>?_⟩
 obtain ⟨v,hv,hr⟩:=hcells j _ (List.getElem?_eq_getElem hj);have hr:v=.int .i64 x[j]:=hr;have e3:off+j*(Kds.one (Kd.int .i64)).size=off+j:=by show off+j*1=_;omega
 rw [e3] at hv;rw [hv,hr,List.getD_eq_getElem?_getD,List.getElem?_eq_getElem hj];rfl
theorem sv_rep {w:World} {S:Nat→Prop} (q:SV w S):(Kd.sl (.one (.int .i64))).Rep w S q.l q.enc:=by
 refine ⟨q.A,q.c,rfl,q.cap,λhp=>?_⟩
 obtain ⟨g,off,e,hg,hs,hc⟩:=q.ok.2 hp;refine ⟨g,off,e,hg,hs,λi x hx=>?_⟩
 have hi:i<q.l.length:=by
  rcases Nat.lt_or_ge i q.l.length with h | h
  ·exact h
  ·rw [List.getElem?_eq_none h] at hx;cases hx
 refine ⟨.int .i64 x,?_,rfl⟩;have e3:off+i*(Kds.one (Kd.int .i64)).size=off+i:=by show off+i*1=_;omega
 rw [e3,hc i hi,List.getD_eq_getElem?_getD,hx];rfl
theorem sv_row {w:World} {S:Nat→Prop} (ds:List (SV w S)):q0c (Cx.of S) w kIs (ds.map SV.l) (ds.map SV.enc):=λi x hx f z hz=>by
 rw [List.getElem?_map] at hx;cases hd:ds[i]? with
 | none=>rw [hd] at hx;cases hx
 | some q =>
  rw [hd] at hx;injection hx with hx;cases f with
  | succ f=>cases hz
  | zero =>
   injection hz with hz;subst hz;refine ⟨q.enc,?_,hx▸sv_rep q⟩;have e:i*kIs.size+0=i:=by show i*1+0=i;omega
   rw [e,List.getElem?_map,hd];rfl
theorem equal_any {ok:Nat→Prop} {A B:Option Addr} {n c m d:Nat} {xs ys:List Int} {w:World} (hn:n≤9223372036854775807) (hm:m≤9223372036854775807) (hx:IntsIn w ok A n xs) (hy:IntsIn w ok B m ys) :
  Calls Tryz.prog 69 #[.slice A n c,.slice B m d] w λe w'=>e=.returned (.bool (xs==ys))∧∃ q,w'=w.drewN q:=by
 obtain ⟨hx1,hx2⟩:=hx;obtain ⟨hy1,hy2⟩:=hy;by_cases hnm:n=m
 ·subst hnm
  by_cases h0:n=0
  ·subst h0
   obtain rfl:=List.eq_nil_of_length_eq_zero hx1.symm;obtain rfl:=List.eq_nil_of_length_eq_zero hy1.symm;refine (Tryz.slices_Equal_int_empty A B c 0 d w hm).mono ?_;rintro e w' ⟨rfl,rfl⟩;exact ⟨rfl,0,rfl⟩
  ·obtain ⟨g,off,rfl,_,_,hc⟩:=hx2 (Nat.pos_of_ne_zero h0)
   obtain ⟨g2,off2,rfl,_,_,hc2⟩:=hy2 (Nat.pos_of_ne_zero h0);refine (Tryz.slices_Equal_int g off n c g2 off2 n d xs ys w (Nat.le_of_eq hx1) (Nat.le_of_eq hy1) hn hm hc hc2).mono ?_;rintro e w' ⟨rfl,q,rfl⟩;rw [List.take_of_length_le (Nat.le_of_eq hx1.symm),List.take_of_length_le (Nat.le_of_eq hy1.symm)];exact ⟨rfl,q,rfl⟩
 ·refine (Tryz.slices_Equal_int_lens A B n c m d w hnm).mono ?_
  rintro e w' ⟨rfl,rfl⟩;refine ⟨?_,0,rfl⟩;have hne:(xs==ys)=false:=beq_eq_false_iff_ne.2 λe=>hnm (by rw [hx1,hy1,e])
  rw [hne]
theorem thin_snoc (b:List Int):∀ (p:List (List Int)) (a:List Int),q0t (p++[a,b])=if a==b then q0t (p++[a]) else q0t (p++[a])++[b]
 | [],a=>by
  show q0t [a,b]=_;rw [q0t];by_cases h:a=b
  ·rw [if_pos (beq_iff_eq.2 h),if_pos (beq_iff_eq.2 h),h];rfl
  ·rw [if_neg (λe=>h (beq_iff_eq.1 e)),if_neg (λe=>h (beq_iff_eq.1 e))];rfl
 | [x],a=>by
  show q0t [x,a,b]=if (a==b)=true then q0t [x,a] else q0t [x,a]++[b]
  by_cases hx:(x==a)=true <;> by_cases ha:(a==b)=true <;> simp only [q0t,hx,ha,if_true,if_false,Bool.false_eq_true,↓reduceIte,List.cons_append,List.nil_append] <;> simp_all
 | x::y::p,a=>by
  have ih:=thin_snoc b (y::p) a;show q0t (x::y::(p++[a,b]))=if (a==b)=true then q0t (x::y::(p++[a])) else q0t (x::y::(p++[a]))++[b]
  rw [q0t,q0t];have e1:q0t (y::p++[a,b])=q0t (y::(p++[a,b])):=rfl;have e2:q0t (y::p++[a])=q0t (y::(p++[a])):=rfl;rw [e1,e2] at ih;rw [ih];by_cases hx:x=y
  ·rw [if_pos (beq_iff_eq.2 hx),if_pos (beq_iff_eq.2 hx)]
  ·rw [if_neg (λe=>hx (beq_iff_eq.1 e)),if_neg (λe=>hx (beq_iff_eq.1 e))]
   split <;> rfl
theorem row_grown {w:World} {base:Nat} {e:TypeId} {v:Value} {n:Nat} {cells:List Value} (os:Array Obj) (h:w.ownsRow base e 1 v n cells):(grow w os).ownsRow base e 1 v n cells:=by
 rcases h with ⟨hl,h⟩;refine ⟨hl,?_⟩;rcases h with ⟨e0,h0⟩ | ⟨g,cap,cur,hv,hb,hg,hr⟩
 ·exact .inl ⟨e0,h0⟩
 ·refine .inr ⟨g,cap,cur,hv,hb,?_,hr⟩
  have hlt:g<w.heap.size:=by
   rcases Nat.lt_or_ge g w.heap.size with h' | h'
   ·exact h'
   ·rw [Array.getElem?_eq_none h'] at hg;cases hg
  show (w.heap++os)[g]? = _;rw [Array.getElem?_append_left hlt];exact hg
theorem sortL_holds:oSortL.Holds Tryz.prog:=by
 refine ⟨⟨_,Tryz.func116,by kernel_rfl,by kernel_rfl⟩,λxs p b v cells vs fvs w n0 S hn0 hS hvS hown hcells hpre hvs hfa _=>?_⟩
 have hfa:fvs=[.func (.func 67) #[] #[]]:=hfa;subst hfa;obtain ⟨xs,rfl⟩:∃ q:List (List Int),q=xs:=⟨xs,rfl⟩;obtain ⟨hp1,hp2⟩:=hpre;have hp1:xs.length≤1000000000:=hp1;have hp2:∀ x∈xs,x.length≤1000000:=hp2;have hvs2:vs=[]:=List.eq_nil_of_length_eq_zero hvs.1;subst hvs2;have hown1:w.ownsRow n0 40 1 v xs.length cells:=hown;have hcl:cells.length=xs.length:=by have:=hown1.1;omega
 obtain ⟨ds,hd1,hd2⟩:=svs_of (w:=w) (S:=S) hcl λi x hx=>by
  obtain ⟨u,hu,hr⟩:=hcells i x hx 0 ⟨Kd.sl (.one (.int .i64)),x⟩ rfl;have e:i*oSortL.fs.size+0=i:=by show i*1+0=i;omega
  rw [e] at hu;have hm:=hp2 x (List.mem_of_getElem? hx);exact ⟨u,hu,sv_of hr (by omega)⟩
 have hdl:ds.length=xs.length:=by rw [← hd2,List.length_map]
 by_cases hnil:v=.slice none 0 0
 ·subst hnil
  have h0:xs.length=0:=by
   rcases hown1.2 with ⟨_,h0⟩ | ⟨g,cap,cur,h,_⟩
   ·exact h0
   ·cases h
  have hxs:=List.eq_nil_of_length_eq_zero h0;subst hxs;refine (AnyF.slices_SortFunc_none (P:=Tryz.prog) (ρ:=Tryz.laysSlF6_f116_ren) { Tryz.laysSlF6_f116 with } none 0 _ w).mono ?_;rintro e w' ⟨rfl,rfl⟩;have e0:ordL ([]:List (List Int))=[]:=List.eq_nil_of_length_eq_zero (ord_len []);refine ⟨⟨rfl,rfl,rfl,Nat.le_refl _,λ_ _ _=>rfl⟩,_,cells,rfl,?_,?_,(λh=>by cases h),λ_=>rfl⟩
  ·show World.ownsRow _ _ _ _ _ (ordL []).length _
   rw [e0];exact hown1
  ·show q0c (Cx.of S) _ kIs (ordL []) cells
   rw [e0];exact hcells
 ·rw [← hd1] at hown1
  obtain ⟨g,cap,rfl,hg1,hg2,hc1,hc2,_,hH⟩:=Lib.holds_of_ownsRow hown1 hnil;have hSg:¬ S g:=hvS g rfl;have hsort:=Tryz.slices_SortFunc SV.enc (λx=>rfl) SV.cf (sv_swo w S) 67 #[] g 0 cap ds.toArray w (enters_of Tryz.func67 (by kernel_rfl) rfl) (sv_lays w S g _ hSg) hH hg2 (by show ds.length<_;omega)
  have hsz:ds.toArray.size=xs.length:=hdl;rw [hsz] at hsort;refine hsort.mono ?_;rintro e w' ⟨rfl,d',n,os,hperm,hsorted,rfl⟩;have hsz0:d'.size=ds.toArray.size:=hperm.1;have hds:d'.size=ds.length:=hsz0;have hpl:d'.toList.Perm ds:=by
   have:=hperm.2.2
   rw [Array.extract_eq_self_of_le (by omega),Array.extract_eq_self_of_le (by show ds.toArray.size≤_;omega)] at this
   exact this
  have hmap:d'.toList.map SV.l=ordL xs:=by
   refine qjw ?_ ?_ (ord_up xs)
   ·have h1:=hpl.map SV.l
    rw [hd2] at h1;exact h1.trans (List.mergeSort_perm _ _).symm
   ·rw [List.pairwise_map,List.pairwise_iff_getElem]
    intro i j hi hj hij;have hj':j<d'.size:=by rwa [Array.length_toList] at hj
    have hi':i<d'.size:=by rwa [Array.length_toList] at hi
    have:=hsorted i j (Nat.zero_le _) hij (by omega)
    rw [getElem!_pos d' i hi',getElem!_pos d' j hj'] at this;have h2:¬ Cod.cmpL d'[j].l d'[i].l<0:=of_decide_eq_false this;have:=Cod.q5j d'[i].l d'[j].l;show Cod.cmpL d'[i].l d'[j].l≤0;omega
  have hrow:=ownsRow_putRow (q:=n) (k:=xs.length) (ys:=d'.toList) hown1 (by rw [Array.length_toList];omega) (Nat.le_refl _)
  have hrow:=row_grown os hrow;have htk:d'.toList.take xs.length=d'.toList:=List.take_of_length_le (by rw [Array.length_toList];omega)
  rw [htk] at hrow;refine ⟨?_,_,d'.toList.map SV.enc,rfl,?_,?_,(λh=>by cases h),λ_=>rfl⟩
  ·refine ⟨rfl,rfl,rfl,qa0 ..,λk hk hne=>?_⟩
   exact heap_sorted _ _ _ _ _ _ _ hk (λe=>hne (by rw [e];rfl))
  ·show World.ownsRow _ _ _ _ _ (ordL xs).length _
   rw [ord_len];exact hrow
  ·show q0c (Cx.of S) _ kIs (ordL xs) _
   rw [← hmap];exact sv_row _
end Go.Proofs.YtfecgebhoondjaaGreatDoor

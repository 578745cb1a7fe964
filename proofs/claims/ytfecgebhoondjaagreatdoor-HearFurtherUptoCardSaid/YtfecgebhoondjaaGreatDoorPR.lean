/-
  Several texts in one: HeN, HeNV, HeO.
-/
import Derived.Test.YtfecgebhoondjaaGreatDoorPQ
set_option linter.unusedVariables false
namespace Go.Proofs.YtfecgebhoondjaaGreatDoor
open Go.RowKit Go.Lib
open R
set_option maxHeartbeats 2000000 in
set_option maxRecDepth 100000 in
theorem cloneG_any (it:TypeInfo) (z:Value) (hi:Tryz.prog.info? 42=some it) (hz0:it.zero=some z) (hz1:it.size=5) (hz2:it.bytes=64) (hzs:z.cells.size=5)
  (ad:Addr) (n c:Nat) (news:List Value) (w:World) (hl:news.length=n*5) (hn:n≤maxLen) (hbig:n*64≤140737488355328) (hc:∀ j u,news[j]? = some u→w.cell? (ad.add j)=some u) (h1:∀ u∈news,u.oneCell'=true) :
  Calls Tryz.prog 55 #[.slice (some ad) n c] w fun e w'=>∃ v',e=.returned v'∧w'.ownsRow w.heap.size 42 5 v' n news∧Below w.heap.size w w':=by
 have t22:=Tryz.underlying26
 have q22:∀ (w:World) (a:Option Addr) (n c n' c':Nat),(binOp .eql 26 (.slice a n c) (.slice none n' c')).run Tryz.prog w=.ok (.bool a.isNone) w:=fun w a n c n' c'=>Lib.run_eql_slice_nil w _ _ a n c n' c' t22
 have u22:∀ w,Sem.run Tryz.prog (underlying 26) w=.ok (TypeDesc.slice 42) w:=run_underlying t22
 have A:Aside (∀ j u,news[j]? = some u→w.cell? (ad.add j)=some u):=hc
 clear hc
 go_enter Tryz.func55,Tryz.ntmps55
 go_wp2_with (at_builtin; refine wpList_append_own _ rfl _ _ 26 rfl w.heap.size 42 it z 5 64 t22 hi hz0 hz1 hz2 hzs (by decide) _ _ _ rfl (World.ownsRow_made w #[] 0 (Nat.le_refl _) (Nat.zero_le _) (by simp)) ad n c news rfl ?qc1 ?qc2 ?qc3 ?qc4 ?qc5 ?qc6 ?_)
 case qc1=>exact hl
 case qc2 =>
  intro j u hj
  exact Lib.cell?_alloc_some _ (A.out j u hj)
 case qc3=>exact h1
 case qc4=>rw [Nat.zero_add]; exact hn
 case qc5=>rw [Nat.zero_add]; exact hbig
 case qc6=>simp
 intro v' w1 hown hgrow hnil
 go_wp2
 go_ret
 refine ⟨v',rfl,by simpa using hown,?_⟩
 exact ((Below.refl _ w).alloc (Nat.le_refl _) _).grown hgrow (by simp) (by intro k hk; simp [Value.ownBlock] at hk; omega)
set_option maxHeartbeats 2000000 in
set_option maxRecDepth 100000 in
theorem cloneG_nil (n c:Nat) (w:World):Calls Tryz.prog 55 #[.slice none n c] w fun e w'=>e=.returned (.slice none 0 0)∧w'=w:=by
 have t22:=Tryz.underlying26
 have q22:∀ (w:World) (a:Option Addr) (n c n' c':Nat),(binOp .eql 26 (.slice a n c) (.slice none n' c')).run Tryz.prog w=.ok (.bool a.isNone) w:=fun w a n c n' c'=>Lib.run_eql_slice_nil w _ _ a n c n' c' t22
 go_enter Tryz.func55,Tryz.ntmps55
 go_wp2
 go_ret
 exact ⟨rfl,rfl⟩
def nCloneG:NCon:={ f:=55,args:=[q7p],e:=42,fs:=kGiv,pre:=fun l _=>List.length l≤1000000,F:=fun l _=>l }
theorem cloneG_holds:nCloneG.Holds Tryz.prog:=by
 refine ⟨⟨_,Tryz.func55,by kernel_rfl,by kernel_rfl⟩,fun p b vs fvs w S hS hpre hvs hfa=>?_⟩
 have hfa:fvs=[]:=hfa
 subst hfa
 obtain ⟨v,rfl,hv⟩:=q11 hvs
 obtain ⟨p,rfl⟩:∃ q:q0f,q=p:=⟨p,rfl⟩
 have hpre:p.length≤1000000:=hpre
 have hv:(Kd.sl kGiv).Rep w S p v:=hv
 obtain ⟨it,z,hi,hz0,hzs,hsz,hby,e1,e2,hone⟩:=q4s (P:=Tryz.prog) (e:=42) (size:=5) (bytes:=64) (by kernel_rfl)
 rcases src_cells hv with ⟨c,rfl,hz⟩ | ⟨ad,c,news,rfl,hl,hc,h1,hrow⟩
 ·refine (cloneG_nil 0 c w).mono ?_
  rintro e w' ⟨rfl,rfl⟩
  have hz:p=[]:=hz
  subst hz
  exact ⟨Below.refl _ _,_,[],rfl,World.ownsRow_nil _ _ _ _,fun i x hx=>by cases hx⟩
 ·have hl:news.length=p.length*5:=hl
  refine (cloneG_any it z hi hz0 e1 e2 (by rw [hzs,e1]) ad p.length c news w hl (by unfold maxLen; omega) (by omega) hc h1).mono ?_
  rintro e w' ⟨v',rfl,ho,hb⟩
  exact ⟨hb,v',news,rfl,ho,hrow⟩
def cHere:Con:=.of 20 [ckWl,ckCf,q7p,ckPt,q27] [q27,q37,ckErr1] (fun p=>q13 p.1∧q0u p.2.1∧q4p p.2.2.1∧List.length p.2.2.2.2≤1000) (fun p=>Hea.q4q ⟨p.1.1,p.1.2,p.2.1⟩ p.2.2.1 p.2.2.2.1 p.2.2.2.2)
noncomputable def inlHr:List (Nat×Func):=inlHe++[(53,Tryz.f53),(54,Tryz.f54),(108,Tryz.f108)]
noncomputable def kitHr:Kit:={ cons:=[qao,cAlike,cCut,cEqS.lent,cOn,cDist],ns:=[nCloneS,nCloneG],os:=[qhn],fcs:=[fOdd],inls:=inlHr }
def qat (l:q0f):Row:=⟨42,kGiv,l⟩
abbrev bkR:Nat:=39000
def hfHere:Hf:={ L:=30000,F:=42000,upL:=[(45,[2,5,8])],upF:=[],boxL:=[5,8] }
def bkHere (book:q0f) (p:Cod.Pt):List (Nat×Row):=[(bkR,qat (book.filter (Hea.q00 p)))]
abbrev liveHr:List (Nat×List Nat):=[(45,[5,35,36])]
def anFarH (book:q0f) (p:Cod.Pt):List (Nat×Ann) :=
 [annX 0 Nat (fun st k=>st.hd { live:=[0,1,7],sav:=savK 0 ((42,[0,1])::liveHr),box:=[5,8,30011,30002] } [(8,R.int .i64 k)] [] [(bkR,qat book),(hfHere.wr,q5p (Get.rowS hfHere.wr st))] [] none)
  (fun _ k=>k≤book.length∧(book.take k).all (Hea.q00 p)=true)
  (fun _ k=>book.length-k)]
def q3i (book:q0f) (p:Cod.Pt) (k j:Nat) (l:q0f):Prop:=k<j∧j≤book.length∧l.length=book.length∧l.take k=(book.take j).filter (Hea.q00 p)∧l.drop j=book.drop j
def anDelH (book:q0f) (p:Cod.Pt):List (Nat×Ann) :=
 [annX 0 (Nat×Nat×q0f) (fun st q=>st.hd { live:=[0,1],sav:=savK 0 liveHr,box:=[5,8,30011,30002] } [(5,R.int .i64 q.1),(6,R.int .i64 q.2.1)] [] [(bkR,qat q.2.2),(hfHere.wr,q5p (Get.rowS hfHere.wr st))] [] none)
  (fun _ q=>q3i book p q.1 q.2.1 q.2.2)
  (fun _ q=>book.length-q.2.1)]
def anHr (e:Cod.Ear) (book:q0f) (p:Cod.Pt) (text:List UInt8):Nat→List (Nat×Ann):=fun f =>
 bif Nat.beq f 54 then anDelH book p
 else bif Nat.beq f 108 then anFarH book p
 else anHe hfHere (bkHere book p) e (book.filter (Hea.q00 p)) text f
end Go.Proofs.YtfecgebhoondjaaGreatDoor
set_option linter.unusedVariables false
namespace Go.Proofs.YtfecgebhoondjaaGreatDoor
open Go.RowKit
open R
set_option maxRecDepth 100000 in
def q6h (e:Cod.Ear) (book:q0f) (pt:Cod.Pt) (w:List (List UInt8)) (R:List UInt8×Bool×Int):Prop :=
  ∀ (p_1:Nat×List (List UInt8)),p_1.1≤(List.filter (Hea.q00 pt) book).length∧p_1.2.length≤p_1.1∧Hea.q0h (Hea.q04 e) e.ws w (List.filter (Hea.q00 pt) book) []=Hea.q0h
  (Hea.q04 e) e.ws w (List.drop p_1.1 (List.filter (Hea.q00 pt) book)) p_1.2→bif decide ((p_1.1:Int)<(↑(List.filter (Hea.q00 pt) book).length:Int)) then ((0:Int)≤(↑p_1.1 :
  Int)∧(p_1.1:Int)<(↑(List.filter (Hea.q00 pt) book).length:Int))∧(∃ (p':Nat×List (List UInt8)),(p'.1≤((List.filter (Hea.q00 pt) book).getD (p_1.1:Int).toNat
  Cod.noG).2.1.length∧p'.2=Hea.ownW e.ws (List.take p'.1 ((List.filter (Hea.q00 pt) book).getD (p_1.1:Int).toNat Cod.noG).2.1))∧((0:Int)=(p'.1:Int)∧True∧True∧True ∧
  True∧True∧True∧True∧(↑(List.filter (Hea.q00 pt) book).length:Int)=(↑(List.filter (Hea.q00 pt) book).length:Int)∧(p_1.1:Int)=(p_1.1:Int)∧((List.filter (Hea.q00
  pt) book).getD (p_1.1:Int).toNat Cod.noG).2.1=((List.filter (Hea.q00 pt) book).getD (p_1.1:Int).toNat Cod.noG).2.1∧(↑((List.filter (Hea.q00 pt) book).getD (p_1.1:Int).toNat
  Cod.noG).2.1.length:Int)=(↑((List.filter (Hea.q00 pt) book).getD (p_1.1:Int).toNat Cod.noG).2.1.length:Int)∧True)∧((True∧True)∧(True∧True∧True)∧(e.c=e.c∧True) ∧
  (e.lang=e.lang∧e.ws=e.ws∧True)∧(((List.filter (Hea.q00 pt) book).getD (p_1.1:Int).toNat Cod.noG).1=((List.filter (Hea.q00 pt) book).getD (p_1.1:Int).toNat Cod.noG).1 ∧
  ((List.filter (Hea.q00 pt) book).getD (p_1.1:Int).toNat Cod.noG).2.1=((List.filter (Hea.q00 pt) book).getD (p_1.1:Int).toNat Cod.noG).2.1∧((List.filter (Hea.q00 pt)
  book).getD (p_1.1:Int).toNat Cod.noG).2.2.1=((List.filter (Hea.q00 pt) book).getD (p_1.1:Int).toNat Cod.noG).2.2.1∧((List.filter (Hea.q00 pt) book).getD (p_1.1:Int).toNat
  Cod.noG).2.2.2.1=((List.filter (Hea.q00 pt) book).getD (p_1.1:Int).toNat Cod.noG).2.2.2.1∧((List.filter (Hea.q00 pt) book).getD (p_1.1:Int).toNat Cod.noG).2.2.2.2 =
  ((List.filter (Hea.q00 pt) book).getD (p_1.1:Int).toNat Cod.noG).2.2.2.2∧True)∧True)∧(p'.2=[]∧w=w∧p_1.2=p_1.2∧List.filter (Hea.q00 pt) book=List.filter (Hea.q00
  pt) book∧True)∧True∧True∧True∧True∧True∧True∧True)∧∀ (p_2:Nat×List (List UInt8)),p_2.1≤((List.filter (Hea.q00 pt) book).getD (p_1.1:Int).toNat
  Cod.noG).2.1.length∧p_2.2=Hea.ownW e.ws (List.take p_2.1 ((List.filter (Hea.q00 pt) book).getD (p_1.1:Int).toNat Cod.noG).2.1)→bif decide ((p_2.1:Int)<(↑((List.filter
  (Hea.q00 pt) book).getD (p_1.1:Int).toNat Cod.noG).2.1.length:Int)) then ((0:Int)≤(p_2.1:Int)∧(p_2.1:Int)<(↑((List.filter (Hea.q00 pt) book).getD (p_1.1:Int).toNat
  Cod.noG).2.1.length:Int))∧((0:Int)≤((List.filter (Hea.q00 pt) book).getD (p_1.1:Int).toNat Cod.noG).2.1.getD (p_2.1:Int).toNat (0:Int)∧((List.filter (Hea.q00 pt)
  book).getD (p_1.1:Int).toNat Cod.noG).2.1.getD (p_2.1:Int).toNat (0:Int)<(e.ws.length:Int))∧(p_2.2.length+[e.ws.getD (((List.filter (Hea.q00 pt) book).getD (↑p_1.1 :
  Int).toNat Cod.noG).2.1.getD (p_2.1:Int).toNat (0:Int)).toNat []].length)*(16:Nat)≤(140737488355328:Nat)∧((-9223372036854775808:Int)≤(p_2.1:Int)+(1:Int)∧(↑p_2.1 :
  Int)+(1:Int)≤(9223372036854775807:Int))∧∃ (p':Nat×List (List UInt8)),(p'.1≤((List.filter (Hea.q00 pt) book).getD (p_1.1:Int).toNat Cod.noG).2.1.length∧p'.2=Hea.ownW
  e.ws (List.take p'.1 ((List.filter (Hea.q00 pt) book).getD (p_1.1:Int).toNat Cod.noG).2.1))∧((List.filter (Hea.q00 pt) book).getD (p_1.1:Int).toNat Cod.noG).2.1.length-p'.1 <
  ((List.filter (Hea.q00 pt) book).getD (p_1.1:Int).toNat Cod.noG).2.1.length-p_2.1∧((p_2.1:Int)+(1:Int)=(p'.1:Int)∧True∧True∧True∧True∧True∧True∧True ∧
  (↑(List.filter (Hea.q00 pt) book).length:Int)=(↑(List.filter (Hea.q00 pt) book).length:Int)∧(p_1.1:Int)=(p_1.1:Int)∧((List.filter (Hea.q00 pt) book).getD (↑p_1.1 :
  Int).toNat Cod.noG).2.1=((List.filter (Hea.q00 pt) book).getD (p_1.1:Int).toNat Cod.noG).2.1∧(↑((List.filter (Hea.q00 pt) book).getD (p_1.1:Int).toNat Cod.noG).2.1.length :
  Int)=(↑((List.filter (Hea.q00 pt) book).getD (p_1.1:Int).toNat Cod.noG).2.1.length:Int)∧True)∧((True∧True)∧(True∧True∧True)∧(e.c=e.c∧True)∧(e.lang=e.lang ∧
  e.ws=e.ws∧True)∧(((List.filter (Hea.q00 pt) book).getD (p_1.1:Int).toNat Cod.noG).1=((List.filter (Hea.q00 pt) book).getD (p_1.1:Int).toNat Cod.noG).1∧((List.filter
  (Hea.q00 pt) book).getD (p_1.1:Int).toNat Cod.noG).2.1=((List.filter (Hea.q00 pt) book).getD (p_1.1:Int).toNat Cod.noG).2.1∧((List.filter (Hea.q00 pt) book).getD (↑p_1.1 :
  Int).toNat Cod.noG).2.2.1=((List.filter (Hea.q00 pt) book).getD (p_1.1:Int).toNat Cod.noG).2.2.1∧((List.filter (Hea.q00 pt) book).getD (p_1.1:Int).toNat Cod.noG).2.2.2.1 =
  ((List.filter (Hea.q00 pt) book).getD (p_1.1:Int).toNat Cod.noG).2.2.2.1∧((List.filter (Hea.q00 pt) book).getD (p_1.1:Int).toNat Cod.noG).2.2.2.2=((List.filter (Hea.q00 pt)
  book).getD (p_1.1:Int).toNat Cod.noG).2.2.2.2∧True)∧True)∧(p_2.2++[e.ws.getD (((List.filter (Hea.q00 pt) book).getD (p_1.1:Int).toNat Cod.noG).2.1.getD (p_2.1:Int).toNat
  (0:Int)).toNat []]=p'.2∧w=w∧p_1.2=p_1.2∧List.filter (Hea.q00 pt) book=List.filter (Hea.q00 pt) book∧True)∧True∧True∧True∧True∧True∧True∧True else
  (p_2.2.length≤(1000000:Nat)∧w.length≤(1000000:Nat))∧bif p_2.2==w then (((List.filter (Hea.q00 pt) book).getD (p_1.1:Int).toNat Cod.noG).1,false,(0:Int))=R else (∃
  (p':Nat),(p'≤(3:Nat)∧((1:Nat)≤p'→Hea.q2q (Hea.q04 e) p_2.2 w=false)∧((2:Nat)≤p'→Hea.q36 p_2.2 w=false)∧((3:Nat)≤p'→Hea.q35 p_2.2 w=false))∧((0
  : Int)=(p':Int)∧True∧True∧(↑[((102:Nat),[(nat_lit 30011,nat_lit 0)].length,[(nat_lit 30011,nat_lit 0)]++[]),((103:Nat),[(nat_lit 30011,nat_lit 0)].length,[(nat_lit
  30011,nat_lit 0)]++[]),((104:Nat),[(nat_lit 30011,nat_lit 0)].length,[(nat_lit 30011,nat_lit 0)]++[])].length:Int)=(↑[((102:Nat),[(nat_lit 30011,nat_lit 0)].length,
  [(nat_lit 30011,nat_lit 0)]++[]),((103:Nat),[(nat_lit 30011,nat_lit 0)].length,[(nat_lit 30011,nat_lit 0)]++[]),((104:Nat),[(nat_lit 30011,nat_lit 0)].length,[(nat_lit
  30011,nat_lit 0)]++[])].length:Int)∧True)∧((True∧True∧True)∧(e.c=e.c∧True)∧(e.lang=e.lang∧e.ws=e.ws∧True)∧(((List.filter (Hea.q00 pt) book).getD (↑p_1.1 :
  Int).toNat Cod.noG).1=((List.filter (Hea.q00 pt) book).getD (p_1.1:Int).toNat Cod.noG).1∧((List.filter (Hea.q00 pt) book).getD (p_1.1:Int).toNat Cod.noG).2.1=((List.filter
  (Hea.q00 pt) book).getD (p_1.1:Int).toNat Cod.noG).2.1∧((List.filter (Hea.q00 pt) book).getD (p_1.1:Int).toNat Cod.noG).2.2.1=((List.filter (Hea.q00 pt) book).getD (↑p_1.1 :
  Int).toNat Cod.noG).2.2.1∧((List.filter (Hea.q00 pt) book).getD (p_1.1:Int).toNat Cod.noG).2.2.2.1=((List.filter (Hea.q00 pt) book).getD (p_1.1:Int).toNat Cod.noG).2.2.2.1 ∧
  ((List.filter (Hea.q00 pt) book).getD (p_1.1:Int).toNat Cod.noG).2.2.2.2=((List.filter (Hea.q00 pt) book).getD (p_1.1:Int).toNat Cod.noG).2.2.2.2∧True)∧(True∧True)∧True)
  ∧ (w=w∧p_1.2=p_1.2∧p_2.2=p_2.2∧List.filter (Hea.q00 pt) book=List.filter (Hea.q00 pt) book∧True)∧True∧True∧(True∧True∧True∧True∧True∧True∧(↑(List.filter
  (Hea.q00 pt) book).length:Int)=(↑(List.filter (Hea.q00 pt) book).length:Int)∧(p_1.1:Int)=(p_1.1:Int)∧True)∧True∧True∧True∧True)∧∀ (p_3:Nat),p_3≤(3:Nat)
  ∧ ((1:Nat)≤p_3→Hea.q2q (Hea.q04 e) p_2.2 w=false)∧((2:Nat)≤p_3→Hea.q36 p_2.2 w=false)∧((3:Nat)≤p_3→Hea.q35 p_2.2 w=false)→bif decide ((p_3:Int) <
  (↑[((102:Nat),[(nat_lit 30011,nat_lit 0)].length,[(nat_lit 30011,nat_lit 0)]++[]),((103:Nat),[(nat_lit 30011,nat_lit 0)].length,[(nat_lit 30011,nat_lit 0)]++[]),((104 :
  Nat),[(nat_lit 30011,nat_lit 0)].length,[(nat_lit 30011,nat_lit 0)]++[])].length:Int)) then ((0:Int)≤(p_3:Int)∧(p_3:Int)<(↑[((102:Nat),[(nat_lit 30011,nat_lit
  0)].length,[(nat_lit 30011,nat_lit 0)]++[]),((103:Nat),[(nat_lit 30011,nat_lit 0)].length,[(nat_lit 30011,nat_lit 0)]++[]),((104:Nat),[(nat_lit 30011,nat_lit 0)].length,
  [(nat_lit 30011,nat_lit 0)]++[])].length:Int))∧((p_3:Int)=(↑(nat_lit 0):Int)→bif (p_2.2.length:Int) != (w.length:Int) then ((-9223372036854775808:Int)≤(p_3:Int)
  + (1:Int)∧(p_3:Int)+(1:Int)≤(9223372036854775807:Int))∧∃ (p':Nat),(p'≤(3:Nat)∧((1:Nat)≤p'→Hea.q2q (Hea.q04 e) p_2.2 w=false)∧((2:Nat)≤p' →
  Hea.q36 p_2.2 w=false)∧((3:Nat)≤p'→Hea.q35 p_2.2 w=false))∧(3:Nat)-p'<(3:Nat)-p_3∧((p_3:Int)+(1:Int)=(p':Int)∧True∧True∧(↑[((102:Nat),
  [(nat_lit 30011,nat_lit 0)].length,[(nat_lit 30011,nat_lit 0)]++[]),((103:Nat),[(nat_lit 30011,nat_lit 0)].length,[(nat_lit 30011,nat_lit 0)]++[]),((104:Nat),[(nat_lit
  30011,nat_lit 0)].length,[(nat_lit 30011,nat_lit 0)]++[])].length:Int)=(↑[((102:Nat),[(nat_lit 30011,nat_lit 0)].length,[(nat_lit 30011,nat_lit 0)]++[]),((103:Nat),
  [(nat_lit 30011,nat_lit 0)].length,[(nat_lit 30011,nat_lit 0)]++[]),((104:Nat),[(nat_lit 30011,nat_lit 0)].length,[(nat_lit 30011,nat_lit 0)]++[])].length:Int)∧True) ∧
  ((True∧True∧True)∧(e.c=e.c∧True)∧(e.lang=e.lang∧e.ws=e.ws∧True)∧(((List.filter (Hea.q00 pt) book).getD (p_1.1:Int).toNat Cod.noG).1=((List.filter (Hea.q00 pt)
  book).getD (p_1.1:Int).toNat Cod.noG).1∧((List.filter (Hea.q00 pt) book).getD (p_1.1:Int).toNat Cod.noG).2.1=((List.filter (Hea.q00 pt) book).getD (p_1.1:Int).toNat
  Cod.noG).2.1∧((List.filter (Hea.q00 pt) book).getD (p_1.1:Int).toNat Cod.noG).2.2.1=((List.filter (Hea.q00 pt) book).getD (p_1.1:Int).toNat Cod.noG).2.2.1∧((List.filter
  (Hea.q00 pt) book).getD (p_1.1:Int).toNat Cod.noG).2.2.2.1=((List.filter (Hea.q00 pt) book).getD (p_1.1:Int).toNat Cod.noG).2.2.2.1∧((List.filter (Hea.q00 pt) book).getD
  (p_1.1:Int).toNat Cod.noG).2.2.2.2=((List.filter (Hea.q00 pt) book).getD (p_1.1:Int).toNat Cod.noG).2.2.2.2∧True)∧(True∧True)∧True)∧(w=w∧p_1.2=p_1.2∧p_2.2=p_2.2
  ∧ List.filter (Hea.q00 pt) book=List.filter (Hea.q00 pt) book∧True)∧True∧True∧(True∧True∧True∧True∧True∧True∧(↑(List.filter (Hea.q00 pt) book).length:Int) =
  (↑(List.filter (Hea.q00 pt) book).length:Int)∧(p_1.1:Int)=(p_1.1:Int)∧True)∧True∧True∧True∧True else (∃ (p':Nat×Nat),(p'.1≤w.length∧p'.2=(Hea.diff
  (List.take p'.1 p_2.2) (List.take p'.1 w)).length∧((Hea.diff (List.take p'.1 p_2.2) (List.take p'.1 w)).all fun (q:Hea.Str×Hea.Str)=>Hea.q04 e q.1 q.2)=true)∧((0:Int) =
  (p'.1:Int)∧(0:Int)=(p'.2:Int)∧True∧True∧True∧(w.length:Int)=(w.length:Int)∧True)∧((True∧True∧True)∧(e.c=e.c∧True)∧(e.lang=e.lang∧e.ws=e.ws ∧
  True)∧(((List.filter (Hea.q00 pt) book).getD (p_1.1:Int).toNat Cod.noG).1=((List.filter (Hea.q00 pt) book).getD (p_1.1:Int).toNat Cod.noG).1∧((List.filter (Hea.q00 pt)
  book).getD (p_1.1:Int).toNat Cod.noG).2.1=((List.filter (Hea.q00 pt) book).getD (p_1.1:Int).toNat Cod.noG).2.1∧((List.filter (Hea.q00 pt) book).getD (p_1.1:Int).toNat
  Cod.noG).2.2.1=((List.filter (Hea.q00 pt) book).getD (p_1.1:Int).toNat Cod.noG).2.2.1∧((List.filter (Hea.q00 pt) book).getD (p_1.1:Int).toNat Cod.noG).2.2.2.1=((List.filter
  (Hea.q00 pt) book).getD (p_1.1:Int).toNat Cod.noG).2.2.2.1∧((List.filter (Hea.q00 pt) book).getD (p_1.1:Int).toNat Cod.noG).2.2.2.2=((List.filter (Hea.q00 pt) book).getD
  (p_1.1:Int).toNat Cod.noG).2.2.2.2∧True)∧(True∧True)∧True)∧(w=w∧p_1.2=p_1.2∧p_2.2=p_2.2∧List.filter (Hea.q00 pt) book=List.filter (Hea.q00 pt) book∧True) ∧
  True∧True∧(True∧True∧(p_3:Int)=(p_3:Int)∧(↑[((102:Nat),[(nat_lit 30011,nat_lit 0)].length,[(nat_lit 30011,nat_lit 0)]++[]),((103:Nat),[(nat_lit 30011,nat_lit
  0)].length,[(nat_lit 30011,nat_lit 0)]++[]),((104:Nat),[(nat_lit 30011,nat_lit 0)].length,[(nat_lit 30011,nat_lit 0)]++[])].length:Int)=(↑[((102:Nat),[(nat_lit 30011,
  nat_lit 0)].length,[(nat_lit 30011,nat_lit 0)]++[]),((103:Nat),[(nat_lit 30011,nat_lit 0)].length,[(nat_lit 30011,nat_lit 0)]++[]),((104:Nat),[(nat_lit 30011,nat_lit
  0)].length,[(nat_lit 30011,nat_lit 0)]++[])].length:Int)∧(p_3:Int)=(p_3:Int)∧True∧True∧True∧True∧True∧True∧(↑(List.filter (Hea.q00 pt) book).length:Int) =
  (↑(List.filter (Hea.q00 pt) book).length:Int)∧(p_1.1:Int)=(p_1.1:Int)∧True)∧True∧True∧True∧True)∧∀ (p_4:Nat×Nat),p_4.1≤w.length∧p_4.2=(Hea.diff
  (List.take p_4.1 p_2.2) (List.take p_4.1 w)).length∧((Hea.diff (List.take p_4.1 p_2.2) (List.take p_4.1 w)).all fun (q:Hea.Str×Hea.Str)=>Hea.q04 e q.1 q.2)=true→bif decide
  ((p_4.1:Int)<(w.length:Int)) then ((0:Int)≤(p_4.1:Int)∧(p_4.1:Int)<(w.length:Int))∧((0:Int)≤(p_4.1:Int)∧(p_4.1:Int)<(p_2.2.length:Int))∧bif
  !w.getD (p_4.1:Int).toNat []==p_2.2.getD (p_4.1:Int).toNat [] then ((-9223372036854775808:Int)≤(p_4.2:Int)+(1:Int)∧(p_4.2:Int)+(1:Int)≤(9223372036854775807 :
  Int))∧((0:Int)≤(p_4.1:Int)∧(p_4.1:Int)<(p_2.2.length:Int))∧(q0u e.c∧(p_2.2.getD (p_4.1:Int).toNat []).length≤(1000000:Nat)∧(w.getD (p_4.1:Int).toNat
  []).length≤(1000000:Nat))∧bif !Snd.q28 e.c (p_2.2.getD (p_4.1:Int).toNat []) (w.getD (p_4.1:Int).toNat []) then ((-9223372036854775808:Int)≤(p_3:Int)+(1:Int) ∧
  (p_3:Int)+(1:Int)≤(9223372036854775807:Int))∧∃ (p':Nat),(p'≤(3:Nat)∧((1:Nat)≤p'→Hea.q2q (Hea.q04 e) p_2.2 w=false)∧((2:Nat)≤p'→Hea.q36 p_2.2 w =
  false)∧((3:Nat)≤p'→Hea.q35 p_2.2 w=false))∧(3:Nat)-p'<(3:Nat)-p_3∧((p_3:Int)+(1:Int)=(p':Int)∧True∧True∧(↑[((102:Nat),[(nat_lit 30011,nat_lit
  0)].length,[(nat_lit 30011,nat_lit 0)]++[]),((103:Nat),[(nat_lit 30011,nat_lit 0)].length,[(nat_lit 30011,nat_lit 0)]++[]),((104:Nat),[(nat_lit 30011,nat_lit 0)].length,
  [(nat_lit 30011,nat_lit 0)]++[])].length:Int)=(↑[((102:Nat),[(nat_lit 30011,nat_lit 0)].length,[(nat_lit 30011,nat_lit 0)]++[]),((103:Nat),[(nat_lit 30011,nat_lit
  0)].length,[(nat_lit 30011,nat_lit 0)]++[]),((104:Nat),[(nat_lit 30011,nat_lit 0)].length,[(nat_lit 30011,nat_lit 0)]++[])].length:Int)∧True)∧((True∧True∧True)∧(e.c
  = e.c∧True)∧(e.lang=e.lang∧e.ws=e.ws∧True)∧(((List.filter (Hea.q00 pt) book).getD (p_1.1:Int).toNat Cod.noG).1=((List.filter (Hea.q00 pt) book).getD (↑p_1.1 :
  Int).toNat Cod.noG).1∧((List.filter (Hea.q00 pt) book).getD (p_1.1:Int).toNat Cod.noG).2.1=((List.filter (Hea.q00 pt) book).getD (p_1.1:Int).toNat Cod.noG).2.1∧((List.filter
  (Hea.q00 pt) book).getD (p_1.1:Int).toNat Cod.noG).2.2.1=((List.filter (Hea.q00 pt) book).getD (p_1.1:Int).toNat Cod.noG).2.2.1∧((List.filter (Hea.q00 pt) book).getD (↑p_1.1
  : Int).toNat Cod.noG).2.2.2.1=((List.filter (Hea.q00 pt) book).getD (p_1.1:Int).toNat Cod.noG).2.2.2.1∧((List.filter (Hea.q00 pt) book).getD (p_1.1:Int).toNat Cod.noG).2.2.2.2
  = ((List.filter (Hea.q00 pt) book).getD (p_1.1:Int).toNat Cod.noG).2.2.2.2∧True)∧(True∧True)∧True)∧(w=w∧p_1.2=p_1.2∧p_2.2=p_2.2∧List.filter (Hea.q00 pt) book =
  List.filter (Hea.q00 pt) book∧True)∧True∧True∧(True∧True∧True∧True∧True∧True∧(↑(List.filter (Hea.q00 pt) book).length:Int)=(↑(List.filter (Hea.q00 pt)
  book).length:Int)∧(p_1.1:Int)=(p_1.1:Int)∧True)∧True∧True∧True∧True else ((-9223372036854775808:Int)≤(p_4.1:Int)+(1:Int)∧(p_4.1:Int)+(1:Int) ≤
  (9223372036854775807:Int))∧∃ (p':Nat×Nat),(p'.1≤w.length∧p'.2=(Hea.diff (List.take p'.1 p_2.2) (List.take p'.1 w)).length∧((Hea.diff (List.take p'.1 p_2.2) (List.take p'.1
  w)).all fun (q:Hea.Str×Hea.Str)=>Hea.q04 e q.1 q.2)=true)∧w.length-p'.1<w.length-p_4.1∧((p_4.1:Int)+(1:Int)=(p'.1:Int)∧(p_4.2:Int)+(1:Int)=(↑p'.2
  : Int)∧True∧True∧True∧(w.length:Int)=(w.length:Int)∧True)∧((True∧True∧True)∧(e.c=e.c∧True)∧(e.lang=e.lang∧e.ws=e.ws∧True)∧(((List.filter (Hea.q00
  pt) book).getD (p_1.1:Int).toNat Cod.noG).1=((List.filter (Hea.q00 pt) book).getD (p_1.1:Int).toNat Cod.noG).1∧((List.filter (Hea.q00 pt) book).getD (p_1.1:Int).toNat
  Cod.noG).2.1=((List.filter (Hea.q00 pt) book).getD (p_1.1:Int).toNat Cod.noG).2.1∧((List.filter (Hea.q00 pt) book).getD (p_1.1:Int).toNat Cod.noG).2.2.1=((List.filter
  (Hea.q00 pt) book).getD (p_1.1:Int).toNat Cod.noG).2.2.1∧((List.filter (Hea.q00 pt) book).getD (p_1.1:Int).toNat Cod.noG).2.2.2.1=((List.filter (Hea.q00 pt) book).getD
  (p_1.1:Int).toNat Cod.noG).2.2.2.1∧((List.filter (Hea.q00 pt) book).getD (p_1.1:Int).toNat Cod.noG).2.2.2.2=((List.filter (Hea.q00 pt) book).getD (p_1.1:Int).toNat
  Cod.noG).2.2.2.2∧True)∧(True∧True)∧True)∧(w=w∧p_1.2=p_1.2∧p_2.2=p_2.2∧List.filter (Hea.q00 pt) book=List.filter (Hea.q00 pt) book∧True)∧True∧True∧(True ∧
  True∧(p_3:Int)=(p_3:Int)∧(↑[((102:Nat),[(nat_lit 30011,nat_lit 0)].length,[(nat_lit 30011,nat_lit 0)]++[]),((103:Nat),[(nat_lit 30011,nat_lit 0)].length,[(nat_lit
  30011,nat_lit 0)]++[]),((104:Nat),[(nat_lit 30011,nat_lit 0)].length,[(nat_lit 30011,nat_lit 0)]++[])].length:Int)=(↑[((102:Nat),[(nat_lit 30011,nat_lit 0)].length,
  [(nat_lit 30011,nat_lit 0)]++[]),((103:Nat),[(nat_lit 30011,nat_lit 0)].length,[(nat_lit 30011,nat_lit 0)]++[]),((104:Nat),[(nat_lit 30011,nat_lit 0)].length,[(nat_lit
  30011,nat_lit 0)]++[])].length:Int)∧(p_3:Int)=(p_3:Int)∧True∧True∧True∧True∧True∧True∧(↑(List.filter (Hea.q00 pt) book).length:Int)=(↑(List.filter
  (Hea.q00 pt) book).length:Int)∧(p_1.1:Int)=(p_1.1:Int)∧True)∧True∧True∧True∧True else ((-9223372036854775808:Int)≤(p_4.1:Int)+(1:Int)∧(p_4.1:Int)+(1
  : Int)≤(9223372036854775807:Int))∧∃ (p':Nat×Nat),(p'.1≤w.length∧p'.2=(Hea.diff (List.take p'.1 p_2.2) (List.take p'.1 w)).length∧((Hea.diff (List.take p'.1 p_2.2)
  (List.take p'.1 w)).all fun (q:Hea.Str×Hea.Str)=>Hea.q04 e q.1 q.2)=true)∧w.length-p'.1<w.length-p_4.1∧((p_4.1:Int)+(1:Int)=(p'.1:Int)∧(p_4.2:Int) =
  (p'.2:Int)∧True∧True∧True∧(w.length:Int)=(w.length:Int)∧True)∧((True∧True∧True)∧(e.c=e.c∧True)∧(e.lang=e.lang∧e.ws=e.ws∧True)∧(((List.filter
  (Hea.q00 pt) book).getD (p_1.1:Int).toNat Cod.noG).1=((List.filter (Hea.q00 pt) book).getD (p_1.1:Int).toNat Cod.noG).1∧((List.filter (Hea.q00 pt) book).getD (↑p_1.1 :
  Int).toNat Cod.noG).2.1=((List.filter (Hea.q00 pt) book).getD (p_1.1:Int).toNat Cod.noG).2.1∧((List.filter (Hea.q00 pt) book).getD (p_1.1:Int).toNat Cod.noG).2.2.1 =
  ((List.filter (Hea.q00 pt) book).getD (p_1.1:Int).toNat Cod.noG).2.2.1∧((List.filter (Hea.q00 pt) book).getD (p_1.1:Int).toNat Cod.noG).2.2.2.1=((List.filter (Hea.q00 pt)
  book).getD (p_1.1:Int).toNat Cod.noG).2.2.2.1∧((List.filter (Hea.q00 pt) book).getD (p_1.1:Int).toNat Cod.noG).2.2.2.2=((List.filter (Hea.q00 pt) book).getD (↑p_1.1 :
  Int).toNat Cod.noG).2.2.2.2∧True)∧(True∧True)∧True)∧(w=w∧p_1.2=p_1.2∧p_2.2=p_2.2∧List.filter (Hea.q00 pt) book=List.filter (Hea.q00 pt) book∧True)∧True∧True
  ∧ (True∧True∧(p_3:Int)=(p_3:Int)∧(↑[((102:Nat),[(nat_lit 30011,nat_lit 0)].length,[(nat_lit 30011,nat_lit 0)]++[]),((103:Nat),[(nat_lit 30011,nat_lit 0)].length,
  [(nat_lit 30011,nat_lit 0)]++[]),((104:Nat),[(nat_lit 30011,nat_lit 0)].length,[(nat_lit 30011,nat_lit 0)]++[])].length:Int)=(↑[((102:Nat),[(nat_lit 30011,nat_lit
  0)].length,[(nat_lit 30011,nat_lit 0)]++[]),((103:Nat),[(nat_lit 30011,nat_lit 0)].length,[(nat_lit 30011,nat_lit 0)]++[]),((104:Nat),[(nat_lit 30011,nat_lit 0)].length,
  [(nat_lit 30011,nat_lit 0)]++[])].length:Int)∧(p_3:Int)=(p_3:Int)∧True∧True∧True∧True∧True∧True∧(↑(List.filter (Hea.q00 pt) book).length:Int) =
  (↑(List.filter (Hea.q00 pt) book).length:Int)∧(p_1.1:Int)=(p_1.1:Int)∧True)∧True∧True∧True∧True else bif (p_4.2:Int)==(1:Int) then (p_1.2.length +
  [((List.filter (Hea.q00 pt) book).getD (p_1.1:Int).toNat Cod.noG).1].length)*(16:Nat)≤(140737488355328:Nat)∧((-9223372036854775808:Int)≤(p_1.1:Int)+(1:Int) ∧
  (p_1.1:Int)+(1:Int)≤(9223372036854775807:Int))∧∃ (p':Nat×List (List UInt8)),(p'.1≤(List.filter (Hea.q00 pt) book).length∧p'.2.length≤p'.1∧Hea.q0h (Hea.q04 e)
  e.ws w (List.filter (Hea.q00 pt) book) []=Hea.q0h (Hea.q04 e) e.ws w (List.drop p'.1 (List.filter (Hea.q00 pt) book)) p'.2)∧(List.filter (Hea.q00 pt) book).length-p'.1 <
  (List.filter (Hea.q00 pt) book).length-p_1.1∧((p_1.1:Int)+(1:Int)=(p'.1:Int)∧True∧(↑(List.filter (Hea.q00 pt) book).length:Int)=(↑(List.filter (Hea.q00 pt)
  book).length:Int)∧True∧True∧True∧True∧True)∧((True∧True∧True)∧(e.c=e.c∧True)∧(e.lang=e.lang∧e.ws=e.ws∧True)∧True)∧(w=w∧p_1.2++[((List.filter
  (Hea.q00 pt) book).getD (p_1.1:Int).toNat Cod.noG).1]=p'.2∧List.filter (Hea.q00 pt) book=List.filter (Hea.q00 pt) book∧True)∧True∧True∧True∧True∧True∧True∧True
  else ((-9223372036854775808:Int)≤(p_3:Int)+(1:Int)∧(p_3:Int)+(1:Int)≤(9223372036854775807:Int))∧∃ (p':Nat),(p'≤(3:Nat)∧((1:Nat)≤p'→Hea.q2q
  (Hea.q04 e) p_2.2 w=false)∧((2:Nat)≤p'→Hea.q36 p_2.2 w=false)∧((3:Nat)≤p'→Hea.q35 p_2.2 w=false))∧(3:Nat)-p'<(3:Nat)-p_3∧((p_3:Int)+(1:Int)
  = (p':Int)∧True∧True∧(↑[((102:Nat),[(nat_lit 30011,nat_lit 0)].length,[(nat_lit 30011,nat_lit 0)]++[]),((103:Nat),[(nat_lit 30011,nat_lit 0)].length,[(nat_lit 30011,
  nat_lit 0)]++[]),((104:Nat),[(nat_lit 30011,nat_lit 0)].length,[(nat_lit 30011,nat_lit 0)]++[])].length:Int)=(↑[((102:Nat),[(nat_lit 30011,nat_lit 0)].length,[(nat_lit
  30011,nat_lit 0)]++[]),((103:Nat),[(nat_lit 30011,nat_lit 0)].length,[(nat_lit 30011,nat_lit 0)]++[]),((104:Nat),[(nat_lit 30011,nat_lit 0)].length,[(nat_lit 30011,nat_lit
  0)]++[])].length:Int)∧True)∧((True∧True∧True)∧(e.c=e.c∧True)∧(e.lang=e.lang∧e.ws=e.ws∧True)∧(((List.filter (Hea.q00 pt) book).getD (p_1.1:Int).toNat
  Cod.noG).1=((List.filter (Hea.q00 pt) book).getD (p_1.1:Int).toNat Cod.noG).1∧((List.filter (Hea.q00 pt) book).getD (p_1.1:Int).toNat Cod.noG).2.1=((List.filter (Hea.q00
  pt) book).getD (p_1.1:Int).toNat Cod.noG).2.1∧((List.filter (Hea.q00 pt) book).getD (p_1.1:Int).toNat Cod.noG).2.2.1=((List.filter (Hea.q00 pt) book).getD (p_1.1:Int).toNat
  Cod.noG).2.2.1∧((List.filter (Hea.q00 pt) book).getD (p_1.1:Int).toNat Cod.noG).2.2.2.1=((List.filter (Hea.q00 pt) book).getD (p_1.1:Int).toNat Cod.noG).2.2.2.1∧((List.filter
  (Hea.q00 pt) book).getD (p_1.1:Int).toNat Cod.noG).2.2.2.2=((List.filter (Hea.q00 pt) book).getD (p_1.1:Int).toNat Cod.noG).2.2.2.2∧True)∧(True∧True)∧True)∧(w=w ∧
  p_1.2=p_1.2∧p_2.2=p_2.2∧List.filter (Hea.q00 pt) book=List.filter (Hea.q00 pt) book∧True)∧True∧True∧(True∧True∧True∧True∧True∧True∧(↑(List.filter (Hea.q00
  pt) book).length:Int)=(↑(List.filter (Hea.q00 pt) book).length:Int)∧(p_1.1:Int)=(p_1.1:Int)∧True)∧True∧True∧True∧True)∧((p_3:Int)=(↑(nat_lit 1):Int)→(∃
  (p':Nat),(p'≤p_2.2.length∧∀ (i:Nat),i<p'→(p_2.2.eraseIdx i==w)=false)∧((0:Int)=(p':Int)∧True∧True∧(p_2.2.length:Int)=(p_2.2.length:Int)∧True) ∧
  ((True∧True∧True)∧(e.c=e.c∧True)∧(e.lang=e.lang∧e.ws=e.ws∧True)∧(((List.filter (Hea.q00 pt) book).getD (p_1.1:Int).toNat Cod.noG).1=((List.filter (Hea.q00 pt)
  book).getD (p_1.1:Int).toNat Cod.noG).1∧((List.filter (Hea.q00 pt) book).getD (p_1.1:Int).toNat Cod.noG).2.1=((List.filter (Hea.q00 pt) book).getD (p_1.1:Int).toNat
  Cod.noG).2.1∧((List.filter (Hea.q00 pt) book).getD (p_1.1:Int).toNat Cod.noG).2.2.1=((List.filter (Hea.q00 pt) book).getD (p_1.1:Int).toNat Cod.noG).2.2.1∧((List.filter
  (Hea.q00 pt) book).getD (p_1.1:Int).toNat Cod.noG).2.2.2.1=((List.filter (Hea.q00 pt) book).getD (p_1.1:Int).toNat Cod.noG).2.2.2.1∧((List.filter (Hea.q00 pt) book).getD
  (p_1.1:Int).toNat Cod.noG).2.2.2.2=((List.filter (Hea.q00 pt) book).getD (p_1.1:Int).toNat Cod.noG).2.2.2.2∧True)∧(True∧True)∧True)∧(w=w∧p_1.2=p_1.2∧p_2.2=p_2.2
  ∧ List.filter (Hea.q00 pt) book=List.filter (Hea.q00 pt) book∧True)∧True∧True∧(True∧True∧(p_3:Int)=(p_3:Int)∧(↑[((102:Nat),[(nat_lit 30011,nat_lit 0)].length,
  [(nat_lit 30011,nat_lit 0)]++[]),((103:Nat),[(nat_lit 30011,nat_lit 0)].length,[(nat_lit 30011,nat_lit 0)]++[]),((104:Nat),[(nat_lit 30011,nat_lit 0)].length,[(nat_lit
  30011,nat_lit 0)]++[])].length:Int)=(↑[((102:Nat),[(nat_lit 30011,nat_lit 0)].length,[(nat_lit 30011,nat_lit 0)]++[]),((103:Nat),[(nat_lit 30011,nat_lit 0)].length,
  [(nat_lit 30011,nat_lit 0)]++[]),((104:Nat),[(nat_lit 30011,nat_lit 0)].length,[(nat_lit 30011,nat_lit 0)]++[])].length:Int)∧(p_3:Int)=(p_3:Int)∧True∧True∧True
  ∧ True∧True∧True∧(↑(List.filter (Hea.q00 pt) book).length:Int)=(↑(List.filter (Hea.q00 pt) book).length:Int)∧(p_1.1:Int)=(p_1.1:Int)∧True)∧True∧True∧True ∧
  True)∧∀ (p_4:Nat),(p_4≤p_2.2.length∧∀ (i:Nat),i<p_4→(p_2.2.eraseIdx i==w)=false)→bif decide ((p_4:Int)<(p_2.2.length:Int)) then ((-9223372036854775808:Int) ≤
  (p_4:Int)+(1:Int)∧(p_4:Int)+(1:Int)≤(9223372036854775807:Int))∧(p_2.2.length≤(1000000:Nat)∧(((p_4:Int)+(1:Int)=(p_4:Int)+(1:Int)∧(0:Int) ≤
  (p_4:Int)∧(p_4:Int)<(p_2.2.length:Int))∧((p_2.2.eraseIdx (p_4:Int).toNat).length≤(1000000:Nat)∧w.length≤(1000000:Nat))∧bif p_2.2.eraseIdx (p_4:Int).toNat ==
  w then (p_1.2.length+[((List.filter (Hea.q00 pt) book).getD (p_1.1:Int).toNat Cod.noG).1].length)*(16:Nat)≤(140737488355328:Nat)∧((-9223372036854775808:Int)≤(↑p_1.1 :
  Int)+(1:Int)∧(p_1.1:Int)+(1:Int)≤(9223372036854775807:Int))∧∃ (p':Nat×List (List UInt8)),(p'.1≤(List.filter (Hea.q00 pt) book).length∧p'.2.length≤p'.1 ∧
  Hea.q0h (Hea.q04 e) e.ws w (List.filter (Hea.q00 pt) book) []=Hea.q0h (Hea.q04 e) e.ws w (List.drop p'.1 (List.filter (Hea.q00 pt) book)) p'.2)∧(List.filter (Hea.q00 pt)
  book).length-p'.1<(List.filter (Hea.q00 pt) book).length-p_1.1∧((p_1.1:Int)+(1:Int)=(p'.1:Int)∧True∧(↑(List.filter (Hea.q00 pt) book).length:Int) =
  (↑(List.filter (Hea.q00 pt) book).length:Int)∧True∧True∧True∧True∧True)∧((True∧True∧True)∧(e.c=e.c∧True)∧(e.lang=e.lang∧e.ws=e.ws∧True)∧True)∧(w=w ∧
  p_1.2++[((List.filter (Hea.q00 pt) book).getD (p_1.1:Int).toNat Cod.noG).1]=p'.2∧List.filter (Hea.q00 pt) book=List.filter (Hea.q00 pt) book∧True)∧True∧True∧True ∧
  True∧True∧True∧True else ((-9223372036854775808:Int)≤(p_4:Int)+(1:Int)∧(p_4:Int)+(1:Int)≤(9223372036854775807:Int))∧∃ (p':Nat),(p'≤p_2.2.length∧∀ (i :
  Nat),i<p'→(p_2.2.eraseIdx i==w)=false)∧p_2.2.length-p'<p_2.2.length-p_4∧((p_4:Int)+(1:Int)=(p':Int)∧True∧True∧(p_2.2.length:Int)=(↑p_2.2.length :
  Int)∧True)∧((True∧True∧True)∧(e.c=e.c∧True)∧(e.lang=e.lang∧e.ws=e.ws∧True)∧(((List.filter (Hea.q00 pt) book).getD (p_1.1:Int).toNat Cod.noG).1=((List.filter
  (Hea.q00 pt) book).getD (p_1.1:Int).toNat Cod.noG).1∧((List.filter (Hea.q00 pt) book).getD (p_1.1:Int).toNat Cod.noG).2.1=((List.filter (Hea.q00 pt) book).getD (↑p_1.1 :
  Int).toNat Cod.noG).2.1∧((List.filter (Hea.q00 pt) book).getD (p_1.1:Int).toNat Cod.noG).2.2.1=((List.filter (Hea.q00 pt) book).getD (p_1.1:Int).toNat Cod.noG).2.2.1 ∧
  ((List.filter (Hea.q00 pt) book).getD (p_1.1:Int).toNat Cod.noG).2.2.2.1=((List.filter (Hea.q00 pt) book).getD (p_1.1:Int).toNat Cod.noG).2.2.2.1∧((List.filter (Hea.q00 pt)
  book).getD (p_1.1:Int).toNat Cod.noG).2.2.2.2=((List.filter (Hea.q00 pt) book).getD (p_1.1:Int).toNat Cod.noG).2.2.2.2∧True)∧(True∧True)∧True)∧(w=w∧p_1.2=p_1.2 ∧
  p_2.2=p_2.2∧List.filter (Hea.q00 pt) book=List.filter (Hea.q00 pt) book∧True)∧True∧True∧(True∧True∧(p_3:Int)=(p_3:Int)∧(↑[((102:Nat),[(nat_lit 30011,
  nat_lit 0)].length,[(nat_lit 30011,nat_lit 0)]++[]),((103:Nat),[(nat_lit 30011,nat_lit 0)].length,[(nat_lit 30011,nat_lit 0)]++[]),((104:Nat),[(nat_lit 30011,nat_lit
  0)].length,[(nat_lit 30011,nat_lit 0)]++[])].length:Int)=(↑[((102:Nat),[(nat_lit 30011,nat_lit 0)].length,[(nat_lit 30011,nat_lit 0)]++[]),((103:Nat),[(nat_lit 30011,
  nat_lit 0)].length,[(nat_lit 30011,nat_lit 0)]++[]),((104:Nat),[(nat_lit 30011,nat_lit 0)].length,[(nat_lit 30011,nat_lit 0)]++[])].length:Int)∧(p_3:Int)=(p_3:Int) ∧
  True∧True∧True∧True∧True∧True∧(↑(List.filter (Hea.q00 pt) book).length:Int)=(↑(List.filter (Hea.q00 pt) book).length:Int)∧(p_1.1:Int)=(p_1.1:Int)∧True) ∧
  True∧True∧True∧True)∧((p_4:Int)+(1:Int)=(p_4:Int)+(1:Int)∧(0:Int)≤(p_4:Int)∧(p_4:Int)<(p_2.2.length:Int))∧((p_2.2.eraseIdx (↑p_4 :
  Int).toNat).length≤(1000000:Nat)∧w.length≤(1000000:Nat))∧bif p_2.2.eraseIdx (p_4:Int).toNat==w then (p_1.2.length+[((List.filter (Hea.q00 pt) book).getD (↑p_1.1 :
  Int).toNat Cod.noG).1].length)*(16:Nat)≤(140737488355328:Nat)∧((-9223372036854775808:Int)≤(p_1.1:Int)+(1:Int)∧(p_1.1:Int)+(1:Int)≤(9223372036854775807:Int))
  ∧ ∃ (p':Nat×List (List UInt8)),(p'.1≤(List.filter (Hea.q00 pt) book).length∧p'.2.length≤p'.1∧Hea.q0h (Hea.q04 e) e.ws w (List.filter (Hea.q00 pt) book) []=Hea.q0h
  (Hea.q04 e) e.ws w (List.drop p'.1 (List.filter (Hea.q00 pt) book)) p'.2)∧(List.filter (Hea.q00 pt) book).length-p'.1<(List.filter (Hea.q00 pt) book).length-p_1.1∧((↑p_1.1
  : Int)+(1:Int)=(p'.1:Int)∧True∧(↑(List.filter (Hea.q00 pt) book).length:Int)=(↑(List.filter (Hea.q00 pt) book).length:Int)∧True∧True∧True∧True∧True)∧((True
  ∧ True∧True)∧(e.c=e.c∧True)∧(e.lang=e.lang∧e.ws=e.ws∧True)∧True)∧(w=w∧p_1.2++[((List.filter (Hea.q00 pt) book).getD (p_1.1:Int).toNat Cod.noG).1]=p'.2 ∧
  List.filter (Hea.q00 pt) book=List.filter (Hea.q00 pt) book∧True)∧True∧True∧True∧True∧True∧True∧True else ((-9223372036854775808:Int)≤(p_4:Int)+(1:Int) ∧
  (p_4:Int)+(1:Int)≤(9223372036854775807:Int))∧∃ (p':Nat),(p'≤p_2.2.length∧∀ (i:Nat),i<p'→(p_2.2.eraseIdx i==w)=false)∧p_2.2.length-p'<p_2.2.length-p_4 ∧
  ((p_4:Int)+(1:Int)=(p':Int)∧True∧True∧(p_2.2.length:Int)=(p_2.2.length:Int)∧True)∧((True∧True∧True)∧(e.c=e.c∧True)∧(e.lang=e.lang∧e.ws=e.ws ∧
  True)∧(((List.filter (Hea.q00 pt) book).getD (p_1.1:Int).toNat Cod.noG).1=((List.filter (Hea.q00 pt) book).getD (p_1.1:Int).toNat Cod.noG).1∧((List.filter (Hea.q00 pt)
  book).getD (p_1.1:Int).toNat Cod.noG).2.1=((List.filter (Hea.q00 pt) book).getD (p_1.1:Int).toNat Cod.noG).2.1∧((List.filter (Hea.q00 pt) book).getD (p_1.1:Int).toNat
  Cod.noG).2.2.1=((List.filter (Hea.q00 pt) book).getD (p_1.1:Int).toNat Cod.noG).2.2.1∧((List.filter (Hea.q00 pt) book).getD (p_1.1:Int).toNat Cod.noG).2.2.2.1=((List.filter
  (Hea.q00 pt) book).getD (p_1.1:Int).toNat Cod.noG).2.2.2.1∧((List.filter (Hea.q00 pt) book).getD (p_1.1:Int).toNat Cod.noG).2.2.2.2=((List.filter (Hea.q00 pt) book).getD
  (p_1.1:Int).toNat Cod.noG).2.2.2.2∧True)∧(True∧True)∧True)∧(w=w∧p_1.2=p_1.2∧p_2.2=p_2.2∧List.filter (Hea.q00 pt) book=List.filter (Hea.q00 pt) book∧True) ∧
  True∧True∧(True∧True∧(p_3:Int)=(p_3:Int)∧(↑[((102:Nat),[(nat_lit 30011,nat_lit 0)].length,[(nat_lit 30011,nat_lit 0)]++[]),((103:Nat),[(nat_lit 30011,nat_lit
  0)].length,[(nat_lit 30011,nat_lit 0)]++[]),((104:Nat),[(nat_lit 30011,nat_lit 0)].length,[(nat_lit 30011,nat_lit 0)]++[])].length:Int)=(↑[((102:Nat),[(nat_lit 30011,
  nat_lit 0)].length,[(nat_lit 30011,nat_lit 0)]++[]),((103:Nat),[(nat_lit 30011,nat_lit 0)].length,[(nat_lit 30011,nat_lit 0)]++[]),((104:Nat),[(nat_lit 30011,nat_lit
  0)].length,[(nat_lit 30011,nat_lit 0)]++[])].length:Int)∧(p_3:Int)=(p_3:Int)∧True∧True∧True∧True∧True∧True∧(↑(List.filter (Hea.q00 pt) book).length:Int) =
  (↑(List.filter (Hea.q00 pt) book).length:Int)∧(p_1.1:Int)=(p_1.1:Int)∧True)∧True∧True∧True∧True)∧p_2.2.length≤(1000000:Nat)∧((p_4:Int)+(1:Int)=(↑p_4
  : Int)+(1:Int)∧(0:Int)≤(p_4:Int)∧(p_4:Int)<(p_2.2.length:Int))∧((p_2.2.eraseIdx (p_4:Int).toNat).length≤(1000000:Nat)∧w.length≤(1000000:Nat))∧bif
  p_2.2.eraseIdx (p_4:Int).toNat==w then (p_1.2.length+[((List.filter (Hea.q00 pt) book).getD (p_1.1:Int).toNat Cod.noG).1].length)*(16:Nat)≤(140737488355328:Nat) ∧
  ((-9223372036854775808:Int)≤(p_1.1:Int)+(1:Int)∧(p_1.1:Int)+(1:Int)≤(9223372036854775807:Int))∧∃ (p':Nat×List (List UInt8)),(p'.1≤(List.filter (Hea.q00 pt)
  book).length∧p'.2.length≤p'.1∧Hea.q0h (Hea.q04 e) e.ws w (List.filter (Hea.q00 pt) book) []=Hea.q0h (Hea.q04 e) e.ws w (List.drop p'.1 (List.filter (Hea.q00 pt) book))
  p'.2)∧(List.filter (Hea.q00 pt) book).length-p'.1<(List.filter (Hea.q00 pt) book).length-p_1.1∧((p_1.1:Int)+(1:Int)=(p'.1:Int)∧True∧(↑(List.filter (Hea.q00
  pt) book).length:Int)=(↑(List.filter (Hea.q00 pt) book).length:Int)∧True∧True∧True∧True∧True)∧((True∧True∧True)∧(e.c=e.c∧True)∧(e.lang=e.lang∧e.ws=e.ws
  ∧ True)∧True)∧(w=w∧p_1.2++[((List.filter (Hea.q00 pt) book).getD (p_1.1:Int).toNat Cod.noG).1]=p'.2∧List.filter (Hea.q00 pt) book=List.filter (Hea.q00 pt) book ∧
  True)∧True∧True∧True∧True∧True∧True∧True else ((-9223372036854775808:Int)≤(p_4:Int)+(1:Int)∧(p_4:Int)+(1:Int)≤(9223372036854775807:Int))∧∃ (p':Nat),
  (p'≤p_2.2.length∧∀ (i:Nat),i<p'→(p_2.2.eraseIdx i==w)=false)∧p_2.2.length-p'<p_2.2.length-p_4∧((p_4:Int)+(1:Int)=(p':Int)∧True∧True∧(↑p_2.2.length
  : Int)=(p_2.2.length:Int)∧True)∧((True∧True∧True)∧(e.c=e.c∧True)∧(e.lang=e.lang∧e.ws=e.ws∧True)∧(((List.filter (Hea.q00 pt) book).getD (p_1.1:Int).toNat
  Cod.noG).1=((List.filter (Hea.q00 pt) book).getD (p_1.1:Int).toNat Cod.noG).1∧((List.filter (Hea.q00 pt) book).getD (p_1.1:Int).toNat Cod.noG).2.1=((List.filter (Hea.q00
  pt) book).getD (p_1.1:Int).toNat Cod.noG).2.1∧((List.filter (Hea.q00 pt) book).getD (p_1.1:Int).toNat Cod.noG).2.2.1=((List.filter (Hea.q00 pt) book).getD (p_1.1:Int).toNat
  Cod.noG).2.2.1∧((List.filter (Hea.q00 pt) book).getD (p_1.1:Int).toNat Cod.noG).2.2.2.1=((List.filter (Hea.q00 pt) book).getD (p_1.1:Int).toNat Cod.noG).2.2.2.1∧((List.filter
  (Hea.q00 pt) book).getD (p_1.1:Int).toNat Cod.noG).2.2.2.2=((List.filter (Hea.q00 pt) book).getD (p_1.1:Int).toNat Cod.noG).2.2.2.2∧True)∧(True∧True)∧True)∧(w=w ∧
  p_1.2=p_1.2∧p_2.2=p_2.2∧List.filter (Hea.q00 pt) book=List.filter (Hea.q00 pt) book∧True)∧True∧True∧(True∧True∧(p_3:Int)=(p_3:Int)∧(↑[((102:Nat),
  [(nat_lit 30011,nat_lit 0)].length,[(nat_lit 30011,nat_lit 0)]++[]),((103:Nat),[(nat_lit 30011,nat_lit 0)].length,[(nat_lit 30011,nat_lit 0)]++[]),((104:Nat),[(nat_lit
  30011,nat_lit 0)].length,[(nat_lit 30011,nat_lit 0)]++[])].length:Int)=(↑[((102:Nat),[(nat_lit 30011,nat_lit 0)].length,[(nat_lit 30011,nat_lit 0)]++[]),((103:Nat),
  [(nat_lit 30011,nat_lit 0)].length,[(nat_lit 30011,nat_lit 0)]++[]),((104:Nat),[(nat_lit 30011,nat_lit 0)].length,[(nat_lit 30011,nat_lit 0)]++[])].length:Int)∧(p_3:Int)
  = (p_3:Int)∧True∧True∧True∧True∧True∧True∧(↑(List.filter (Hea.q00 pt) book).length:Int)=(↑(List.filter (Hea.q00 pt) book).length:Int)∧(p_1.1:Int)=(↑p_1.1 :
  Int)∧True)∧True∧True∧True∧True else ((-9223372036854775808:Int)≤(p_3:Int)+(1:Int)∧(p_3:Int)+(1:Int)≤(9223372036854775807:Int))∧∃ (p':Nat),(p'≤(3 :
  Nat)∧((1:Nat)≤p'→Hea.q2q (Hea.q04 e) p_2.2 w=false)∧((2:Nat)≤p'→Hea.q36 p_2.2 w=false)∧((3:Nat)≤p'→Hea.q35 p_2.2 w=false))∧(3:Nat)-p'<(3:Nat)
  - p_3∧((p_3:Int)+(1:Int)=(p':Int)∧True∧True∧(↑[((102:Nat),[(nat_lit 30011,nat_lit 0)].length,[(nat_lit 30011,nat_lit 0)]++[]),((103:Nat),[(nat_lit 30011,
  nat_lit 0)].length,[(nat_lit 30011,nat_lit 0)]++[]),((104:Nat),[(nat_lit 30011,nat_lit 0)].length,[(nat_lit 30011,nat_lit 0)]++[])].length:Int)=(↑[((102:Nat),[(nat_lit
  30011,nat_lit 0)].length,[(nat_lit 30011,nat_lit 0)]++[]),((103:Nat),[(nat_lit 30011,nat_lit 0)].length,[(nat_lit 30011,nat_lit 0)]++[]),((104:Nat),[(nat_lit 30011,nat_lit
  0)].length,[(nat_lit 30011,nat_lit 0)]++[])].length:Int)∧True)∧((True∧True∧True)∧(e.c=e.c∧True)∧(e.lang=e.lang∧e.ws=e.ws∧True)∧(((List.filter (Hea.q00 pt)
  book).getD (p_1.1:Int).toNat Cod.noG).1=((List.filter (Hea.q00 pt) book).getD (p_1.1:Int).toNat Cod.noG).1∧((List.filter (Hea.q00 pt) book).getD (p_1.1:Int).toNat
  Cod.noG).2.1=((List.filter (Hea.q00 pt) book).getD (p_1.1:Int).toNat Cod.noG).2.1∧((List.filter (Hea.q00 pt) book).getD (p_1.1:Int).toNat Cod.noG).2.2.1=((List.filter
  (Hea.q00 pt) book).getD (p_1.1:Int).toNat Cod.noG).2.2.1∧((List.filter (Hea.q00 pt) book).getD (p_1.1:Int).toNat Cod.noG).2.2.2.1=((List.filter (Hea.q00 pt) book).getD
  (p_1.1:Int).toNat Cod.noG).2.2.2.1∧((List.filter (Hea.q00 pt) book).getD (p_1.1:Int).toNat Cod.noG).2.2.2.2=((List.filter (Hea.q00 pt) book).getD (p_1.1:Int).toNat
  Cod.noG).2.2.2.2∧True)∧(True∧True)∧True)∧(w=w∧p_1.2=p_1.2∧p_2.2=p_2.2∧List.filter (Hea.q00 pt) book=List.filter (Hea.q00 pt) book∧True)∧True∧True∧(True ∧
  True∧True∧True∧True∧True∧(↑(List.filter (Hea.q00 pt) book).length:Int)=(↑(List.filter (Hea.q00 pt) book).length:Int)∧(p_1.1:Int)=(p_1.1:Int)∧True)∧True ∧
  True∧True∧True)∧((p_3:Int)=(↑(nat_lit 2):Int)→((-9223372036854775808:Int)≤(p_2.2.length:Int)-(1:Int)∧(p_2.2.length:Int)-(1:Int)≤(9223372036854775807 :
  Int))∧(∃ (p':Nat),(p'≤p_2.2.length-(1:Nat)∧∀ (i:Nat),i<p'→(Hea.q19 p_2.2 i==w&&p_2.2.getD i [] != p_2.2.getD (i+(1:Nat)) [])=false)∧((0:Int)=(p':Int)
  ∧ True∧True∧(p_2.2.length:Int)-(1:Int)=(p_2.2.length:Int)-(1:Int)∧True)∧((True∧True∧True)∧(e.c=e.c∧True)∧(e.lang=e.lang∧e.ws=e.ws∧True) ∧
  (((List.filter (Hea.q00 pt) book).getD (p_1.1:Int).toNat Cod.noG).1=((List.filter (Hea.q00 pt) book).getD (p_1.1:Int).toNat Cod.noG).1∧((List.filter (Hea.q00 pt) book).getD
  (p_1.1:Int).toNat Cod.noG).2.1=((List.filter (Hea.q00 pt) book).getD (p_1.1:Int).toNat Cod.noG).2.1∧((List.filter (Hea.q00 pt) book).getD (p_1.1:Int).toNat Cod.noG).2.2.1 =
  ((List.filter (Hea.q00 pt) book).getD (p_1.1:Int).toNat Cod.noG).2.2.1∧((List.filter (Hea.q00 pt) book).getD (p_1.1:Int).toNat Cod.noG).2.2.2.1=((List.filter (Hea.q00 pt)
  book).getD (p_1.1:Int).toNat Cod.noG).2.2.2.1∧((List.filter (Hea.q00 pt) book).getD (p_1.1:Int).toNat Cod.noG).2.2.2.2=((List.filter (Hea.q00 pt) book).getD (↑p_1.1 :
  Int).toNat Cod.noG).2.2.2.2∧True)∧(True∧True)∧True)∧(w=w∧p_1.2=p_1.2∧p_2.2=p_2.2∧List.filter (Hea.q00 pt) book=List.filter (Hea.q00 pt) book∧True)∧True∧True
  ∧ (True∧True∧(p_3:Int)=(p_3:Int)∧(↑[((102:Nat),[(nat_lit 30011,nat_lit 0)].length,[(nat_lit 30011,nat_lit 0)]++[]),((103:Nat),[(nat_lit 30011,nat_lit 0)].length,
  [(nat_lit 30011,nat_lit 0)]++[]),((104:Nat),[(nat_lit 30011,nat_lit 0)].length,[(nat_lit 30011,nat_lit 0)]++[])].length:Int)=(↑[((102:Nat),[(nat_lit 30011,nat_lit
  0)].length,[(nat_lit 30011,nat_lit 0)]++[]),((103:Nat),[(nat_lit 30011,nat_lit 0)].length,[(nat_lit 30011,nat_lit 0)]++[]),((104:Nat),[(nat_lit 30011,nat_lit 0)].length,
  [(nat_lit 30011,nat_lit 0)]++[])].length:Int)∧(p_3:Int)=(p_3:Int)∧True∧True∧True∧True∧True∧True∧(↑(List.filter (Hea.q00 pt) book).length:Int) =
  (↑(List.filter (Hea.q00 pt) book).length:Int)∧(p_1.1:Int)=(p_1.1:Int)∧True)∧True∧True∧True∧True)∧∀ (p_4:Nat),(p_4≤p_2.2.length-(1:Nat)∧∀ (i:Nat),i <
  p_4→(Hea.q19 p_2.2 i==w&&p_2.2.getD i [] != p_2.2.getD (i+(1:Nat)) [])=false)→bif decide ((p_4:Int)<(p_2.2.length:Int)-(1:Int)) then p_2.2.length≤(1000000 :
  Nat)∧(((-9223372036854775808:Int)≤(p_4:Int)+(1:Int)∧(p_4:Int)+(1:Int)≤(9223372036854775807:Int))∧((0:Int)≤(p_4:Int)+(1:Int)∧(p_4:Int)+(1:Int)
  < (p_2.2.length:Int))∧((0:Int)≤(p_4:Int)∧(p_4:Int)<(p_2.2.length:Int))∧((0:Int)≤(p_4:Int)∧(p_4:Int)<(p_2.2.length:Int))∧((-9223372036854775808 :
  Int)≤(p_4:Int)+(1:Int)∧(p_4:Int)+(1:Int)≤(9223372036854775807:Int))∧bif (p_4:Int).toNat.beq (p_4:Int).toNat then ((0:Int)≤(p_4:Int)+(1:Int)∧(↑p_4 :
  Int)+(1:Int)<(↑(p_2.2.set (p_4:Int).toNat (p_2.2.getD ((p_4:Int)+(1:Int)).toNat [])).length:Int))∧bif ((p_4:Int)+(1:Int)).toNat.beq ((p_4:Int)+(1 :
  Int)).toNat then ∃ (p':Unit),True∧(True∧True∧(p_4:Int)=(p_4:Int)∧True∧(p_2.2.length:Int)-(1:Int)=(p_2.2.length:Int)-(1:Int)∧(p_4:Int)=(p_4:Int)
  ∧ True)∧((True∧True∧True)∧(e.c=e.c∧True)∧(e.lang=e.lang∧e.ws=e.ws∧True)∧(((List.filter (Hea.q00 pt) book).getD (p_1.1:Int).toNat Cod.noG).1=((List.filter
  (Hea.q00 pt) book).getD (p_1.1:Int).toNat Cod.noG).1∧((List.filter (Hea.q00 pt) book).getD (p_1.1:Int).toNat Cod.noG).2.1=((List.filter (Hea.q00 pt) book).getD (↑p_1.1 :
  Int).toNat Cod.noG).2.1∧((List.filter (Hea.q00 pt) book).getD (p_1.1:Int).toNat Cod.noG).2.2.1=((List.filter (Hea.q00 pt) book).getD (p_1.1:Int).toNat Cod.noG).2.2.1 ∧
  ((List.filter (Hea.q00 pt) book).getD (p_1.1:Int).toNat Cod.noG).2.2.2.1=((List.filter (Hea.q00 pt) book).getD (p_1.1:Int).toNat Cod.noG).2.2.2.1∧((List.filter (Hea.q00 pt)
  book).getD (p_1.1:Int).toNat Cod.noG).2.2.2.2=((List.filter (Hea.q00 pt) book).getD (p_1.1:Int).toNat Cod.noG).2.2.2.2∧True)∧(True∧True)∧True)∧((p_2.2.set (↑p_4 :
  Int).toNat (p_2.2.getD ((p_4:Int)+(1:Int)).toNat [])).set ((p_4:Int)+(1:Int)).toNat (p_2.2.getD (p_4:Int).toNat [])=Hea.q19 p_2.2 (p_4:Int).toNat∧w=w∧p_1.2 =
  p_1.2∧p_2.2=p_2.2∧List.filter (Hea.q00 pt) book=List.filter (Hea.q00 pt) book∧True)∧True∧True∧(True∧True∧(p_3:Int)=(p_3:Int)∧(↑[((102:Nat),[(nat_lit
  30011,nat_lit 0)].length,[(nat_lit 30011,nat_lit 0)]++[]),((103:Nat),[(nat_lit 30011,nat_lit 0)].length,[(nat_lit 30011,nat_lit 0)]++[]),((104:Nat),[(nat_lit 30011,nat_lit
  0)].length,[(nat_lit 30011,nat_lit 0)]++[])].length:Int)=(↑[((102:Nat),[(nat_lit 30011,nat_lit 0)].length,[(nat_lit 30011,nat_lit 0)]++[]),((103:Nat),[(nat_lit 30011,
  nat_lit 0)].length,[(nat_lit 30011,nat_lit 0)]++[]),((104:Nat),[(nat_lit 30011,nat_lit 0)].length,[(nat_lit 30011,nat_lit 0)]++[])].length:Int)∧(p_3:Int)=(p_3:Int) ∧
  True∧True∧True∧True∧True∧True∧(↑(List.filter (Hea.q00 pt) book).length:Int)=(↑(List.filter (Hea.q00 pt) book).length:Int)∧(p_1.1:Int)=(p_1.1:Int)∧True) ∧
  True∧True∧True∧True else False else False)∧∀ (p_5:Unit),True→((Hea.q19 p_2.2 (p_4:Int).toNat).length≤(1000000:Nat)∧w.length≤(1000000:Nat))∧bif Hea.q19 p_2.2
  (p_4:Int).toNat==w then ((0:Int)≤(p_4:Int)∧(p_4:Int)<(p_2.2.length:Int))∧((-9223372036854775808:Int)≤(p_4:Int)+(1:Int)∧(p_4:Int)+(1:Int) ≤
  (9223372036854775807:Int))∧((0:Int)≤(p_4:Int)+(1:Int)∧(p_4:Int)+(1:Int)<(p_2.2.length:Int))∧bif !p_2.2.getD (p_4:Int).toNat []==p_2.2.getD ((p_4:Int) +
  (1:Int)).toNat [] then (p_1.2.length+[((List.filter (Hea.q00 pt) book).getD (p_1.1:Int).toNat Cod.noG).1].length)*(16:Nat)≤(140737488355328:Nat)∧((-9223372036854775808 :
  Int)≤(p_1.1:Int)+(1:Int)∧(p_1.1:Int)+(1:Int)≤(9223372036854775807:Int))∧∃ (p':Nat×List (List UInt8)),(p'.1≤(List.filter (Hea.q00 pt) book).length ∧
  p'.2.length≤p'.1∧Hea.q0h (Hea.q04 e) e.ws w (List.filter (Hea.q00 pt) book) []=Hea.q0h (Hea.q04 e) e.ws w (List.drop p'.1 (List.filter (Hea.q00 pt) book)) p'.2) ∧
  (List.filter (Hea.q00 pt) book).length-p'.1<(List.filter (Hea.q00 pt) book).length-p_1.1∧((p_1.1:Int)+(1:Int)=(p'.1:Int)∧True∧(↑(List.filter (Hea.q00 pt)
  book).length:Int)=(↑(List.filter (Hea.q00 pt) book).length:Int)∧True∧True∧True∧True∧True)∧((True∧True∧True)∧(e.c=e.c∧True)∧(e.lang=e.lang∧e.ws=e.ws ∧
  True)∧True)∧(w=w∧p_1.2++[((List.filter (Hea.q00 pt) book).getD (p_1.1:Int).toNat Cod.noG).1]=p'.2∧List.filter (Hea.q00 pt) book=List.filter (Hea.q00 pt) book∧True)
  ∧ True∧True∧True∧True∧True∧True∧True else ((-9223372036854775808:Int)≤(p_4:Int)+(1:Int)∧(p_4:Int)+(1:Int)≤(9223372036854775807:Int))∧∃ (p':Nat),(p' ≤
  p_2.2.length-(1:Nat)∧∀ (i:Nat),i<p'→(Hea.q19 p_2.2 i==w&&p_2.2.getD i [] != p_2.2.getD (i+(1:Nat)) [])=false)∧p_2.2.length-(1:Nat)-p'<p_2.2.length-(1 :
  Nat)-p_4∧((p_4:Int)+(1:Int)=(p':Int)∧True∧True∧(p_2.2.length:Int)-(1:Int)=(p_2.2.length:Int)-(1:Int)∧True)∧((True∧True∧True)∧(e.c=e.c ∧
  True)∧(e.lang=e.lang∧e.ws=e.ws∧True)∧(((List.filter (Hea.q00 pt) book).getD (p_1.1:Int).toNat Cod.noG).1=((List.filter (Hea.q00 pt) book).getD (p_1.1:Int).toNat
  Cod.noG).1∧((List.filter (Hea.q00 pt) book).getD (p_1.1:Int).toNat Cod.noG).2.1=((List.filter (Hea.q00 pt) book).getD (p_1.1:Int).toNat Cod.noG).2.1∧((List.filter (Hea.q00
  pt) book).getD (p_1.1:Int).toNat Cod.noG).2.2.1=((List.filter (Hea.q00 pt) book).getD (p_1.1:Int).toNat Cod.noG).2.2.1∧((List.filter (Hea.q00 pt) book).getD (↑p_1.1 :
  Int).toNat Cod.noG).2.2.2.1=((List.filter (Hea.q00 pt) book).getD (p_1.1:Int).toNat Cod.noG).2.2.2.1∧((List.filter (Hea.q00 pt) book).getD (p_1.1:Int).toNat Cod.noG).2.2.2.2 =
  ((List.filter (Hea.q00 pt) book).getD (p_1.1:Int).toNat Cod.noG).2.2.2.2∧True)∧(True∧True)∧True)∧(w=w∧p_1.2=p_1.2∧p_2.2=p_2.2∧List.filter (Hea.q00 pt) book =
  List.filter (Hea.q00 pt) book∧True)∧True∧True∧(True∧True∧(p_3:Int)=(p_3:Int)∧(↑[((102:Nat),[(nat_lit 30011,nat_lit 0)].length,[(nat_lit 30011,nat_lit 0)] ++
  []),((103:Nat),[(nat_lit 30011,nat_lit 0)].length,[(nat_lit 30011,nat_lit 0)]++[]),((104:Nat),[(nat_lit 30011,nat_lit 0)].length,[(nat_lit 30011,nat_lit 0)]++[])].length :
  Int)=(↑[((102:Nat),[(nat_lit 30011,nat_lit 0)].length,[(nat_lit 30011,nat_lit 0)]++[]),((103:Nat),[(nat_lit 30011,nat_lit 0)].length,[(nat_lit 30011,nat_lit 0)]++[]),
  ((104:Nat),[(nat_lit 30011,nat_lit 0)].length,[(nat_lit 30011,nat_lit 0)]++[])].length:Int)∧(p_3:Int)=(p_3:Int)∧True∧True∧True∧True∧True∧True∧(↑(List.filter
  (Hea.q00 pt) book).length:Int)=(↑(List.filter (Hea.q00 pt) book).length:Int)∧(p_1.1:Int)=(p_1.1:Int)∧True)∧True∧True∧True∧True else ((-9223372036854775808 :
  Int)≤(p_4:Int)+(1:Int)∧(p_4:Int)+(1:Int)≤(9223372036854775807:Int))∧∃ (p':Nat),(p'≤p_2.2.length-(1:Nat)∧∀ (i:Nat),i<p'→(Hea.q19 p_2.2 i==w &&
  p_2.2.getD i [] != p_2.2.getD (i+(1:Nat)) [])=false)∧p_2.2.length-(1:Nat)-p'<p_2.2.length-(1:Nat)-p_4∧((p_4:Int)+(1:Int)=(p':Int)∧True∧True ∧
  (p_2.2.length:Int)-(1:Int)=(p_2.2.length:Int)-(1:Int)∧True)∧((True∧True∧True)∧(e.c=e.c∧True)∧(e.lang=e.lang∧e.ws=e.ws∧True)∧(((List.filter
  (Hea.q00 pt) book).getD (p_1.1:Int).toNat Cod.noG).1=((List.filter (Hea.q00 pt) book).getD (p_1.1:Int).toNat Cod.noG).1∧((List.filter (Hea.q00 pt) book).getD (↑p_1.1 :
  Int).toNat Cod.noG).2.1=((List.filter (Hea.q00 pt) book).getD (p_1.1:Int).toNat Cod.noG).2.1∧((List.filter (Hea.q00 pt) book).getD (p_1.1:Int).toNat Cod.noG).2.2.1 =
  ((List.filter (Hea.q00 pt) book).getD (p_1.1:Int).toNat Cod.noG).2.2.1∧((List.filter (Hea.q00 pt) book).getD (p_1.1:Int).toNat Cod.noG).2.2.2.1=((List.filter (Hea.q00 pt)
  book).getD (p_1.1:Int).toNat Cod.noG).2.2.2.1∧((List.filter (Hea.q00 pt) book).getD (p_1.1:Int).toNat Cod.noG).2.2.2.2=((List.filter (Hea.q00 pt) book).getD (↑p_1.1 :
  Int).toNat Cod.noG).2.2.2.2∧True)∧(True∧True)∧True)∧(w=w∧p_1.2=p_1.2∧p_2.2=p_2.2∧List.filter (Hea.q00 pt) book=List.filter (Hea.q00 pt) book∧True)∧True∧True
  ∧ (True∧True∧(p_3:Int)=(p_3:Int)∧(↑[((102:Nat),[(nat_lit 30011,nat_lit 0)].length,[(nat_lit 30011,nat_lit 0)]++[]),((103:Nat),[(nat_lit 30011,nat_lit 0)].length,
  [(nat_lit 30011,nat_lit 0)]++[]),((104:Nat),[(nat_lit 30011,nat_lit 0)].length,[(nat_lit 30011,nat_lit 0)]++[])].length:Int)=(↑[((102:Nat),[(nat_lit 30011,nat_lit
  0)].length,[(nat_lit 30011,nat_lit 0)]++[]),((103:Nat),[(nat_lit 30011,nat_lit 0)].length,[(nat_lit 30011,nat_lit 0)]++[]),((104:Nat),[(nat_lit 30011,nat_lit 0)].length,
  [(nat_lit 30011,nat_lit 0)]++[])].length:Int)∧(p_3:Int)=(p_3:Int)∧True∧True∧True∧True∧True∧True∧(↑(List.filter (Hea.q00 pt) book).length:Int) =
  (↑(List.filter (Hea.q00 pt) book).length:Int)∧(p_1.1:Int)=(p_1.1:Int)∧True)∧True∧True∧True∧True else ((-9223372036854775808:Int)≤(p_3:Int)+(1:Int)∧(↑p_3
  : Int)+(1:Int)≤(9223372036854775807:Int))∧∃ (p':Nat),(p'≤(3:Nat)∧((1:Nat)≤p'→Hea.q2q (Hea.q04 e) p_2.2 w=false)∧((2:Nat)≤p'→Hea.q36 p_2.2 w=false)
  ∧ ((3:Nat)≤p'→Hea.q35 p_2.2 w=false))∧(3:Nat)-p'<(3:Nat)-p_3∧((p_3:Int)+(1:Int)=(p':Int)∧True∧True∧(↑[((102:Nat),[(nat_lit 30011,nat_lit
  0)].length,[(nat_lit 30011,nat_lit 0)]++[]),((103:Nat),[(nat_lit 30011,nat_lit 0)].length,[(nat_lit 30011,nat_lit 0)]++[]),((104:Nat),[(nat_lit 30011,nat_lit 0)].length,
  [(nat_lit 30011,nat_lit 0)]++[])].length:Int)=(↑[((102:Nat),[(nat_lit 30011,nat_lit 0)].length,[(nat_lit 30011,nat_lit 0)]++[]),((103:Nat),[(nat_lit 30011,nat_lit
  0)].length,[(nat_lit 30011,nat_lit 0)]++[]),((104:Nat),[(nat_lit 30011,nat_lit 0)].length,[(nat_lit 30011,nat_lit 0)]++[])].length:Int)∧True)∧((True∧True∧True)∧(e.c
  = e.c∧True)∧(e.lang=e.lang∧e.ws=e.ws∧True)∧(((List.filter (Hea.q00 pt) book).getD (p_1.1:Int).toNat Cod.noG).1=((List.filter (Hea.q00 pt) book).getD (↑p_1.1 :
  Int).toNat Cod.noG).1∧((List.filter (Hea.q00 pt) book).getD (p_1.1:Int).toNat Cod.noG).2.1=((List.filter (Hea.q00 pt) book).getD (p_1.1:Int).toNat Cod.noG).2.1∧((List.filter
  (Hea.q00 pt) book).getD (p_1.1:Int).toNat Cod.noG).2.2.1=((List.filter (Hea.q00 pt) book).getD (p_1.1:Int).toNat Cod.noG).2.2.1∧((List.filter (Hea.q00 pt) book).getD (↑p_1.1
  : Int).toNat Cod.noG).2.2.2.1=((List.filter (Hea.q00 pt) book).getD (p_1.1:Int).toNat Cod.noG).2.2.2.1∧((List.filter (Hea.q00 pt) book).getD (p_1.1:Int).toNat Cod.noG).2.2.2.2
  = ((List.filter (Hea.q00 pt) book).getD (p_1.1:Int).toNat Cod.noG).2.2.2.2∧True)∧(True∧True)∧True)∧(w=w∧p_1.2=p_1.2∧p_2.2=p_2.2∧List.filter (Hea.q00 pt) book =
  List.filter (Hea.q00 pt) book∧True)∧True∧True∧(True∧True∧True∧True∧True∧True∧(↑(List.filter (Hea.q00 pt) book).length:Int)=(↑(List.filter (Hea.q00 pt)
  book).length:Int)∧(p_1.1:Int)=(p_1.1:Int)∧True)∧True∧True∧True∧True) else ((-9223372036854775808:Int)≤(p_1.1:Int)+(1:Int)∧(p_1.1:Int)+(1:Int) ≤
  (9223372036854775807:Int))∧∃ (p':Nat×List (List UInt8)),(p'.1≤(List.filter (Hea.q00 pt) book).length∧p'.2.length≤p'.1∧Hea.q0h (Hea.q04 e) e.ws w (List.filter
  (Hea.q00 pt) book) []=Hea.q0h (Hea.q04 e) e.ws w (List.drop p'.1 (List.filter (Hea.q00 pt) book)) p'.2)∧(List.filter (Hea.q00 pt) book).length-p'.1<(List.filter (Hea.q00
  pt) book).length-p_1.1∧((p_1.1:Int)+(1:Int)=(p'.1:Int)∧True∧(↑(List.filter (Hea.q00 pt) book).length:Int)=(↑(List.filter (Hea.q00 pt) book).length:Int)∧True ∧
  True∧True∧True∧True)∧((True∧True∧True)∧(e.c=e.c∧True)∧(e.lang=e.lang∧e.ws=e.ws∧True)∧True)∧(w=w∧p_1.2=p'.2∧List.filter (Hea.q00 pt) book =
  List.filter (Hea.q00 pt) book∧True)∧True∧True∧True∧True∧True∧True∧True else bif (p_1.2.length:Int)==(0:Int) then ([],false,(10:Int))=R else bif (↑p_1.2.length
  : Int)==(1:Int) then ((0:Int)≤(0:Int)∧(0:Int)<(p_1.2.length:Int))∧(p_1.2.getD (nat_lit 0) [],true,(0:Int))=R else ([],false,(8:Int))=R
set_option maxRecDepth 100000 in
def DelR1 (e:Cod.Ear) (book:q0f) (pt:Cod.Pt) (w:List (List UInt8)) (R:List UInt8×Bool×Int):Prop :=
  ∀ (p_1:Nat×Nat×q0f),q3i book pt p_1.1 p_1.2.1 p_1.2.2→bif decide ((p_1.2.1:Int)<(↑(List.length p_1.2.2):Int)) then ((0:Int)≤(p_1.2.1:Int)∧(p_1.2.1:Int) <
  (↑(List.length p_1.2.2):Int))∧bif !(List.getD p_1.2.2 (p_1.2.1:Int).toNat Cod.noG).2.2.1 then ((-9223372036854775808:Int)≤(p_1.2.1:Int)+(1:Int)∧(p_1.2.1:Int)+(1 :
  Int)≤(9223372036854775807:Int))∧∃ (p':Nat×Nat×q0f),q3i book pt p'.1 p'.2.1 p'.2.2∧List.length book-p'.2.1<List.length book-p_1.2.1∧((p_1.1:Int)=(p'.1:Int)
  ∧ (p_1.2.1:Int)+(1:Int)=(p'.2.1:Int)∧True∧True∧True)∧((e.lang=e.lang∧e.ws=e.ws∧True)∧(pt.1=pt.1∧pt.2=pt.2∧True)∧(True∧True∧True)∧(e.c=e.c ∧
  True)∧True)∧(p_1.2.2=p'.2.2∧w=w∧True)∧True∧True∧(True∧True∧(e.lang=e.lang∧e.ws=e.ws∧True)∧True)∧True∧True∧True∧True else True∧bif !decide ((250000 :
  Int)<Cod.q2s (List.getD p_1.2.2 (p_1.2.1:Int).toNat Cod.noG).2.2.2 pt) then ((0:Int)≤(p_1.1:Int)∧(p_1.1:Int)<(↑(List.length p_1.2.2):Int))∧bif (↑p_1.1 :
  Int).toNat.beq (p_1.1:Int).toNat then ((-9223372036854775808:Int)≤(p_1.1:Int)+(1:Int)∧(p_1.1:Int)+(1:Int)≤(9223372036854775807:Int))∧((-9223372036854775808 :
  Int)≤(p_1.2.1:Int)+(1:Int)∧(p_1.2.1:Int)+(1:Int)≤(9223372036854775807:Int))∧∃ (p':Nat×Nat×q0f),q3i book pt p'.1 p'.2.1 p'.2.2∧List.length book-p'.2.1 <
  List.length book-p_1.2.1∧((p_1.1:Int)+(1:Int)=(p'.1:Int)∧(p_1.2.1:Int)+(1:Int)=(p'.2.1:Int)∧True∧True∧True)∧((e.lang=e.lang∧e.ws=e.ws∧True) ∧
  (pt.1=pt.1∧pt.2=pt.2∧True)∧(True∧True∧True)∧(e.c=e.c∧True)∧True)∧(List.set p_1.2.2 (p_1.1:Int).toNat (List.getD p_1.2.2 (p_1.2.1:Int).toNat Cod.noG)=p'.2.2 ∧
  w=w∧True)∧True∧True∧(True∧True∧(e.lang=e.lang∧e.ws=e.ws∧True)∧True)∧True∧True∧True∧True else False else ((-9223372036854775808:Int)≤(p_1.2.1:Int)+(1
  : Int)∧(p_1.2.1:Int)+(1:Int)≤(9223372036854775807:Int))∧∃ (p':Nat×Nat×q0f),q3i book pt p'.1 p'.2.1 p'.2.2∧List.length book-p'.2.1<List.length book-p_1.2.1 ∧
  ((p_1.1:Int)=(p'.1:Int)∧(p_1.2.1:Int)+(1:Int)=(p'.2.1:Int)∧True∧True∧True)∧((e.lang=e.lang∧e.ws=e.ws∧True)∧(pt.1=pt.1∧pt.2=pt.2∧True)∧(True
  ∧ True∧True)∧(e.c=e.c∧True)∧True)∧(p_1.2.2=p'.2.2∧w=w∧True)∧True∧True∧(True∧True∧(e.lang=e.lang∧e.ws=e.ws∧True)∧True)∧True∧True∧True∧True else
  ((0:Int)≤(p_1.1:Int)∧(p_1.1:Int)<(↑(List.length p_1.2.2):Int))∧((0:Int)≤(p_1.1:Int)∧(p_1.1:Int)≤(↑(List.take (p_1.1:Int).toNat p_1.2.2++List.replicate
  (List.length p_1.2.2-(p_1.1:Int).toNat) Cod.noG).length:Int))∧(∃ (p':Nat×List (List UInt8)),(p'.1≤(List.filter (Hea.q00 pt) book).length∧p'.2.length≤p'.1∧Hea.q0h
  (Hea.q04 e) e.ws w (List.filter (Hea.q00 pt) book) []=Hea.q0h (Hea.q04 e) e.ws w (List.drop p'.1 (List.filter (Hea.q00 pt) book)) p'.2)∧((0:Int)=(p'.1:Int)∧True ∧
  (↑(List.take (p_1.1:Int).toNat (List.take (p_1.1:Int).toNat p_1.2.2++List.replicate (List.length p_1.2.2-(p_1.1:Int).toNat) Cod.noG)).length:Int)=(↑(List.filter (Hea.q00
  pt) book).length:Int)∧True∧True∧True∧True∧True)∧((True∧True∧True)∧(e.c=e.c∧True)∧(e.lang=e.lang∧e.ws=e.ws∧True)∧True)∧(w=w∧p'.2=[]∧List.take
  (p_1.1:Int).toNat (List.take (p_1.1:Int).toNat p_1.2.2++List.replicate (List.length p_1.2.2-(p_1.1:Int).toNat) Cod.noG)=List.filter (Hea.q00 pt) book∧True)∧True∧True ∧
  True∧True∧True∧True∧True)∧q6h e book pt w (R)
set_option maxRecDepth 100000 in
def DelR2 (e:Cod.Ear) (book:q0f) (pt:Cod.Pt) (w:List (List UInt8)) (R:List UInt8×Bool×Int):Prop :=
  ∀ (p_1:Nat×Nat×q0f),q3i book pt p_1.1 p_1.2.1 p_1.2.2→bif decide ((p_1.2.1:Int)<(↑(List.length p_1.2.2):Int)) then ((0:Int)≤(p_1.2.1:Int)∧(p_1.2.1:Int) <
  (↑(List.length p_1.2.2):Int))∧bif !(List.getD p_1.2.2 (p_1.2.1:Int).toNat Cod.noG).2.2.1 then ((-9223372036854775808:Int)≤(p_1.2.1:Int)+(1:Int)∧(p_1.2.1:Int)+(1 :
  Int)≤(9223372036854775807:Int))∧∃ (p':Nat×Nat×q0f),q3i book pt p'.1 p'.2.1 p'.2.2∧List.length book-p'.2.1<List.length book-p_1.2.1∧((p_1.1:Int)=(p'.1:Int)
  ∧ (p_1.2.1:Int)+(1:Int)=(p'.2.1:Int)∧True∧True∧True)∧((e.lang=e.lang∧e.ws=e.ws∧True)∧(pt.1=pt.1∧pt.2=pt.2∧True)∧(True∧True∧True)∧(e.c=e.c ∧
  True)∧True)∧(p_1.2.2=p'.2.2∧w=w∧True)∧True∧True∧(True∧True∧True∧True)∧True∧True∧True∧True else True∧bif !decide ((250000:Int)<Cod.q2s (List.getD
  p_1.2.2 (p_1.2.1:Int).toNat Cod.noG).2.2.2 pt) then ((0:Int)≤(p_1.1:Int)∧(p_1.1:Int)<(↑(List.length p_1.2.2):Int))∧bif (p_1.1:Int).toNat.beq (p_1.1:Int).toNat then
  ((-9223372036854775808:Int)≤(p_1.1:Int)+(1:Int)∧(p_1.1:Int)+(1:Int)≤(9223372036854775807:Int))∧((-9223372036854775808:Int)≤(p_1.2.1:Int)+(1:Int) ∧
  (p_1.2.1:Int)+(1:Int)≤(9223372036854775807:Int))∧∃ (p':Nat×Nat×q0f),q3i book pt p'.1 p'.2.1 p'.2.2∧List.length book-p'.2.1<List.length book-p_1.2.1∧((↑p_1.1
  : Int)+(1:Int)=(p'.1:Int)∧(p_1.2.1:Int)+(1:Int)=(p'.2.1:Int)∧True∧True∧True)∧((e.lang=e.lang∧e.ws=e.ws∧True)∧(pt.1=pt.1∧pt.2=pt.2∧True) ∧
  (True∧True∧True)∧(e.c=e.c∧True)∧True)∧(List.set p_1.2.2 (p_1.1:Int).toNat (List.getD p_1.2.2 (p_1.2.1:Int).toNat Cod.noG)=p'.2.2∧w=w∧True)∧True∧True∧(True ∧
  True∧True∧True)∧True∧True∧True∧True else False else ((-9223372036854775808:Int)≤(p_1.2.1:Int)+(1:Int)∧(p_1.2.1:Int)+(1:Int)≤(9223372036854775807:Int))∧∃
  (p':Nat×Nat×q0f),q3i book pt p'.1 p'.2.1 p'.2.2∧List.length book-p'.2.1<List.length book-p_1.2.1∧((p_1.1:Int)=(p'.1:Int)∧(p_1.2.1:Int)+(1:Int) =
  (p'.2.1:Int)∧True∧True∧True)∧((e.lang=e.lang∧e.ws=e.ws∧True)∧(pt.1=pt.1∧pt.2=pt.2∧True)∧(True∧True∧True)∧(e.c=e.c∧True)∧True)∧(p_1.2.2=p'.2.2 ∧
  w=w∧True)∧True∧True∧(True∧True∧True∧True)∧True∧True∧True∧True else ((0:Int)≤(p_1.1:Int)∧(p_1.1:Int)<(↑(List.length p_1.2.2):Int))∧((0:Int) ≤
  (p_1.1:Int)∧(p_1.1:Int)≤(↑(List.take (p_1.1:Int).toNat p_1.2.2++List.replicate (List.length p_1.2.2-(p_1.1:Int).toNat) Cod.noG).length:Int))∧(∃ (p':Nat×List (List
  UInt8)),(p'.1≤(List.filter (Hea.q00 pt) book).length∧p'.2.length≤p'.1∧Hea.q0h (Hea.q04 e) e.ws w (List.filter (Hea.q00 pt) book) []=Hea.q0h (Hea.q04 e) e.ws w
  (List.drop p'.1 (List.filter (Hea.q00 pt) book)) p'.2)∧((0:Int)=(p'.1:Int)∧True∧(↑(List.take (p_1.1:Int).toNat (List.take (p_1.1:Int).toNat p_1.2.2++List.replicate
  (List.length p_1.2.2-(p_1.1:Int).toNat) Cod.noG)).length:Int)=(↑(List.filter (Hea.q00 pt) book).length:Int)∧True∧True∧True∧True∧True)∧((True∧True∧True)∧(e.c =
  e.c∧True)∧(e.lang=e.lang∧e.ws=e.ws∧True)∧True)∧(w=w∧p'.2=[]∧List.take (p_1.1:Int).toNat (List.take (p_1.1:Int).toNat p_1.2.2++List.replicate (List.length
  p_1.2.2-(p_1.1:Int).toNat) Cod.noG)=List.filter (Hea.q00 pt) book∧True)∧True∧True∧True∧True∧True∧True∧True)∧q6h e book pt w (R)
set_option maxRecDepth 100000 in
def FarR1 (e:Cod.Ear) (book:q0f) (pt:Cod.Pt) (w:List (List UInt8)) (R:List UInt8×Bool×Int):Prop :=
  (∃ (p':Nat),(p'≤List.length book∧(List.take p' book).all (Hea.q00 pt)=true)∧((0:Int)=(p':Int)∧True∧True∧(↑(List.length book):Int)=(↑(List.length book):Int) ∧
  True)∧((e.lang=e.lang∧e.ws=e.ws∧True)∧(pt.1=pt.1∧pt.2=pt.2∧True)∧(True∧True∧True)∧(e.c=e.c∧True)∧True)∧(book=book∧w=w∧True)∧True∧True∧(True
  ∧ True∧True∧True∧(e.lang=e.lang∧e.ws=e.ws∧True)∧True)∧True∧True∧True∧True)∧∀ (p_1:Nat),p_1≤List.length book∧(List.take p_1 book).all (Hea.q00 pt)=true →
  bif decide ((p_1:Int)<(↑(List.length book):Int)) then ((0:Int)≤(p_1:Int)∧(p_1:Int)<(↑(List.length book):Int))∧bif !(List.getD book (p_1:Int).toNat Cod.noG).2.2.1
  then ((-9223372036854775808:Int)≤(p_1:Int)+(1:Int)∧(p_1:Int)+(1:Int)≤(9223372036854775807:Int))∧(∃ (p':Nat×Nat×q0f),q3i book pt p'.1 p'.2.1 p'.2.2 ∧
  ((p_1:Int)=(p'.1:Int)∧(p_1:Int)+(1:Int)=(p'.2.1:Int)∧True∧True∧True)∧((e.lang=e.lang∧e.ws=e.ws∧True)∧(pt.1=pt.1∧pt.2=pt.2∧True)∧(True∧True
  ∧ True)∧(e.c=e.c∧True)∧True)∧(book=p'.2.2∧w=w∧True)∧True∧True∧(True∧True∧(e.lang=e.lang∧e.ws=e.ws∧True)∧True)∧True∧True∧True∧True)∧DelR1 e
  book pt w (R) else True∧bif decide ((250000:Int)<Cod.q2s (List.getD book (p_1:Int).toNat Cod.noG).2.2.2 pt) then ((-9223372036854775808:Int)≤(p_1:Int)+(1:Int)∧(↑p_1 :
  Int)+(1:Int)≤(9223372036854775807:Int))∧(∃ (p':Nat×Nat×q0f),q3i book pt p'.1 p'.2.1 p'.2.2∧((p_1:Int)=(p'.1:Int)∧(p_1:Int)+(1:Int)=(p'.2.1:Int) ∧
  True∧True∧True)∧((e.lang=e.lang∧e.ws=e.ws∧True)∧(pt.1=pt.1∧pt.2=pt.2∧True)∧(True∧True∧True)∧(e.c=e.c∧True)∧True)∧(book=p'.2.2∧w=w∧True)∧True
  ∧ True∧(True∧True∧(e.lang=e.lang∧e.ws=e.ws∧True)∧True)∧True∧True∧True∧True)∧DelR1 e book pt w (R) else ((-9223372036854775808:Int)≤(p_1:Int)+(1:Int) ∧
  (p_1:Int)+(1:Int)≤(9223372036854775807:Int))∧∃ (p':Nat),(p'≤List.length book∧(List.take p' book).all (Hea.q00 pt)=true)∧List.length book-p'<List.length book -
  p_1∧((p_1:Int)+(1:Int)=(p':Int)∧True∧True∧(↑(List.length book):Int)=(↑(List.length book):Int)∧True)∧((e.lang=e.lang∧e.ws=e.ws∧True)∧(pt.1=pt.1 ∧
  pt.2=pt.2∧True)∧(True∧True∧True)∧(e.c=e.c∧True)∧True)∧(book=book∧w=w∧True)∧True∧True∧(True∧True∧True∧True∧(e.lang=e.lang∧e.ws=e.ws∧True) ∧
  True)∧True∧True∧True∧True else (∃ (p':Nat×List (List UInt8)),(p'.1≤(List.filter (Hea.q00 pt) book).length∧p'.2.length≤p'.1∧Hea.q0h (Hea.q04 e) e.ws w (List.filter
  (Hea.q00 pt) book) []=Hea.q0h (Hea.q04 e) e.ws w (List.drop p'.1 (List.filter (Hea.q00 pt) book)) p'.2)∧((0:Int)=(p'.1:Int)∧True∧(↑(List.length book):Int) =
  (↑(List.filter (Hea.q00 pt) book).length:Int)∧True∧True∧True∧True∧True)∧((True∧True∧True)∧(e.c=e.c∧True)∧(e.lang=e.lang∧e.ws=e.ws∧True)∧True)∧(w=w ∧
  p'.2=[]∧book=List.filter (Hea.q00 pt) book∧True)∧True∧True∧True∧True∧True∧True∧True)∧q6h e book pt w (R)
set_option maxRecDepth 100000 in
def FarR2 (e:Cod.Ear) (book:q0f) (pt:Cod.Pt) (w:List (List UInt8)) (R:List UInt8×Bool×Int):Prop :=
  (∃ (p':Nat),(p'≤List.length book∧(List.take p' book).all (Hea.q00 pt)=true)∧((0:Int)=(p':Int)∧True∧True∧(↑(List.length book):Int)=(↑(List.length book):Int) ∧
  True)∧((e.lang=e.lang∧e.ws=e.ws∧True)∧(pt.1=pt.1∧pt.2=pt.2∧True)∧(True∧True∧True)∧(e.c=e.c∧True)∧True)∧(book=book∧w=w∧True)∧True∧True∧(True
  ∧ True∧True∧True∧True∧True)∧True∧True∧True∧True)∧∀ (p_1:Nat),p_1≤List.length book∧(List.take p_1 book).all (Hea.q00 pt)=true→bif decide ((p_1:Int) <
  (↑(List.length book):Int)) then ((0:Int)≤(p_1:Int)∧(p_1:Int)<(↑(List.length book):Int))∧bif !(List.getD book (p_1:Int).toNat Cod.noG).2.2.1 then ((-9223372036854775808
  : Int)≤(p_1:Int)+(1:Int)∧(p_1:Int)+(1:Int)≤(9223372036854775807:Int))∧(∃ (p':Nat×Nat×q0f),q3i book pt p'.1 p'.2.1 p'.2.2∧((p_1:Int)=(p'.1:Int) ∧
  (p_1:Int)+(1:Int)=(p'.2.1:Int)∧True∧True∧True)∧((e.lang=e.lang∧e.ws=e.ws∧True)∧(pt.1=pt.1∧pt.2=pt.2∧True)∧(True∧True∧True)∧(e.c=e.c∧True) ∧
  True)∧(book=p'.2.2∧w=w∧True)∧True∧True∧(True∧True∧True∧True)∧True∧True∧True∧True)∧DelR2 e book pt w (R) else True∧bif decide ((250000:Int)<Cod.q2s
  (List.getD book (p_1:Int).toNat Cod.noG).2.2.2 pt) then ((-9223372036854775808:Int)≤(p_1:Int)+(1:Int)∧(p_1:Int)+(1:Int)≤(9223372036854775807:Int))∧(∃ (p':Nat ×
  Nat×q0f),q3i book pt p'.1 p'.2.1 p'.2.2∧((p_1:Int)=(p'.1:Int)∧(p_1:Int)+(1:Int)=(p'.2.1:Int)∧True∧True∧True)∧((e.lang=e.lang∧e.ws=e.ws∧True) ∧
  (pt.1=pt.1∧pt.2=pt.2∧True)∧(True∧True∧True)∧(e.c=e.c∧True)∧True)∧(book=p'.2.2∧w=w∧True)∧True∧True∧(True∧True∧True∧True)∧True∧True∧True ∧
  True)∧DelR2 e book pt w (R) else ((-9223372036854775808:Int)≤(p_1:Int)+(1:Int)∧(p_1:Int)+(1:Int)≤(9223372036854775807:Int))∧∃ (p':Nat),(p'≤List.length book ∧
  (List.take p' book).all (Hea.q00 pt)=true)∧List.length book-p'<List.length book-p_1∧((p_1:Int)+(1:Int)=(p':Int)∧True∧True∧(↑(List.length book):Int) =
  (↑(List.length book):Int)∧True)∧((e.lang=e.lang∧e.ws=e.ws∧True)∧(pt.1=pt.1∧pt.2=pt.2∧True)∧(True∧True∧True)∧(e.c=e.c∧True)∧True)∧(book=book∧w=w
  ∧ True)∧True∧True∧(True∧True∧True∧True∧True∧True)∧True∧True∧True∧True else (∃ (p':Nat×List (List UInt8)),(p'.1≤(List.filter (Hea.q00 pt) book).length ∧
  p'.2.length≤p'.1∧Hea.q0h (Hea.q04 e) e.ws w (List.filter (Hea.q00 pt) book) []=Hea.q0h (Hea.q04 e) e.ws w (List.drop p'.1 (List.filter (Hea.q00 pt) book)) p'.2)∧((0 :
  Int)=(p'.1:Int)∧True∧(↑(List.length book):Int)=(↑(List.filter (Hea.q00 pt) book).length:Int)∧True∧True∧True∧True∧True)∧((True∧True∧True)∧(e.c=e.c∧True)
  ∧ (e.lang=e.lang∧e.ws=e.ws∧True)∧True)∧(w=w∧p'.2=[]∧book=List.filter (Hea.q00 pt) book∧True)∧True∧True∧True∧True∧True∧True∧True)∧q6h e book pt w
  (R)
theorem findR_ok {e:Cod.Ear} {book:q0f} {pt:Cod.Pt} {w:List (List UInt8)} {R:List UInt8×Bool×Int} (hp:e.proper book=true) (hC:q0u e.c) (hW:∀ s∈e.ws,s.length≤1000000) (hw:w.length≤5) (hwl:∀ s∈w,s.length≤1000000) (hB:book.length≤1000000)
  (hR:R=Hea.q0h (Hea.q04 e) e.ws w (book.filter (Hea.q00 pt)) []):q6h e book pt w R:=by
 unfold q6h
 simp only [true_and,and_true]
 exact (qiu e (book.filter (Hea.q00 pt)) w R _ rfl (Hea.qji hp _) hC hW hw hwl (Nat.le_trans (List.length_filter_le _ _) hB) hR).2
theorem del_step {book:q0f} {pt:Cod.Pt} {k j:Nat} {l:q0f} (h:q3i book pt k j l) (hj:j<book.length):l.getD j Cod.noG=book.getD j Cod.noG∧(Hea.q00 pt (l.getD j Cod.noG)=false→q3i book pt k (j+1) l)∧(Hea.q00 pt (l.getD j Cod.noG)=true→q3i book pt (k+1) (j+1) (l.set k (l.getD j Cod.noG))):=by
 obtain ⟨h1,h2,h3,h4,h5⟩:=h
 have hg:l.getD j Cod.noG=book.getD j Cod.noG:=by
  have:=congrArg (fun z=>List.getD z 0 Cod.noG) h5
  simpa using this
 have hdrop:l.drop (j+1)=book.drop (j+1):=by
  have:=congrArg (List.drop 1) h5
  rwa [List.drop_drop,List.drop_drop] at this
 refine ⟨hg,fun hn=>?_,fun hn=>?_⟩
 ·refine ⟨by omega,hj,h3,?_,hdrop⟩
  rw [Snd.q21 book Cod.noG j hj,List.filter_append,← hg,List.filter_cons_of_neg (by rw [hn]; decide),List.filter_nil,List.append_nil,h4]
 ·refine ⟨by omega,hj,by rw [List.length_set]; exact h3,?_,?_⟩
  ·rw [Snd.q21 book Cod.noG j hj,List.filter_append,← hg,List.filter_cons_of_pos hn,List.filter_nil,← h4,Snd.q21 (l.set k (l.getD j Cod.noG)) Cod.noG k (by rw [List.length_set]; omega),List.take_set_of_le (Nat.le_refl _)]
   congr 2
   rw [List.getD_eq_getElem?_getD (l:=l.set k _),List.getElem?_set_self (by omega)]; rfl
  ·rw [List.drop_set_of_lt (by omega),hdrop]
theorem del1_ok {e:Cod.Ear} {book:q0f} {pt:Cod.Pt} {w:List (List UInt8)} {R:List UInt8×Bool×Int} (hb:book.length≤1000000) (hF:q6h e book pt w R):DelR1 e book pt w R:=by
 unfold DelR1
 simp only [true_and,and_true]
 rintro ⟨k,j,l⟩ hd
 have hd:q3i book pt k j l:=hd
 obtain ⟨h1,h2,h3,h4,h5⟩:=hd
 dsimp only
 have hti:((k:Int).toNat)=k:=rfl
 have htj:((j:Int).toNat)=j:=rfl
 simp only [hti,htj]
 refine bifP (fun hb2=>?_) fun hb2=>?_
 ·have hj:j<book.length:=by have:=of_decide_eq_true hb2; omega
  obtain ⟨hg,hst0,hst1⟩:=del_step ⟨h1,h2,h3,h4,h5⟩ hj
  refine ⟨⟨by omega,by omega⟩,bifP (fun hp=>?_) fun hp=>bifP (fun hq=>?_) fun hq=>?_⟩
  ·refine ⟨⟨by omega,by omega⟩,(k,j+1,l),hst0 ?_,by show book.length-(j+1)<book.length-j; omega,⟨rfl,by push_cast; rfl⟩,rfl⟩
   unfold Hea.q00
   rw [show (l.getD j Cod.noG).2.2.1=false by simpa using hp]; rfl
  ·have hn:Hea.q00 pt (l.getD j Cod.noG)=true:=by
    unfold Hea.q00 Cod.ptOf
    rw [show (l.getD j Cod.noG).2.2.1=true by simpa using hp,decide_eq_true (p:=Cod.q2s (l.getD j Cod.noG).2.2.2 pt≤250000) (by
     have:decide (250000<Cod.q2s (l.getD j Cod.noG).2.2.2 pt)=false:=by simpa using hq
     have:=of_decide_eq_false this; omega)]; rfl
   refine ⟨⟨by omega,by omega⟩,?_⟩
   rw [show k.beq k=true from Nat.beq_refl k,cond_true]
   exact ⟨⟨by omega,by omega⟩,⟨by omega,by omega⟩,(k+1,j+1,l.set k (l.getD j Cod.noG)),hst1 hn,by show book.length-(j+1)<book.length-j; omega,⟨by push_cast; rfl,by push_cast; rfl⟩,rfl⟩
  ·refine ⟨⟨by omega,by omega⟩,(k,j+1,l),hst0 ?_,by show book.length-(j+1)<book.length-j; omega,⟨rfl,by push_cast; rfl⟩,rfl⟩
   unfold Hea.q00 Cod.ptOf
   have:decide (250000<Cod.q2s (l.getD j Cod.noG).2.2.2 pt)=true:=by simpa using hq
   rw [decide_eq_false (p:=Cod.q2s (l.getD j Cod.noG).2.2.2 pt≤250000) (by have:=of_decide_eq_true this; omega),Bool.and_false]
 ·have hle:l.length≤j:=by have:=of_decide_eq_false hb2; omega
  have hfl:book.filter (Hea.q00 pt)=l.take k:=by rw [h4,List.take_of_length_le (by omega)]
  have hlen:(l.take k++List.replicate (l.length-k) Cod.noG).length=l.length:=by rw [List.length_append,List.length_take,List.length_replicate]; omega
  have htk:(l.take k++List.replicate (l.length-k) Cod.noG).take k=l.take k:=by rw [List.take_append_of_le_length (by rw [List.length_take]; omega),List.take_take,Nat.min_self]
  refine ⟨⟨by omega,by omega⟩,⟨by omega,by rw [hlen]; omega⟩,⟨(0,[]),⟨Nat.zero_le _,Nat.le_refl _,rfl⟩,⟨rfl,by rw [htk,hfl]⟩,rfl,by rw [htk,hfl]⟩,hF⟩
theorem del2_ok {e:Cod.Ear} {book:q0f} {pt:Cod.Pt} {w:List (List UInt8)} {R:List UInt8×Bool×Int} (hb:book.length≤1000000) (hF:q6h e book pt w R):DelR2 e book pt w R:=by
 unfold DelR2
 simp only [true_and,and_true]
 rintro ⟨k,j,l⟩ hd
 have hd:q3i book pt k j l:=hd
 obtain ⟨h1,h2,h3,h4,h5⟩:=hd
 dsimp only
 have hti:((k:Int).toNat)=k:=rfl
 have htj:((j:Int).toNat)=j:=rfl
 simp only [hti,htj]
 refine bifP (fun hb2=>?_) fun hb2=>?_
 ·have hj:j<book.length:=by have:=of_decide_eq_true hb2; omega
  obtain ⟨hg,hst0,hst1⟩:=del_step ⟨h1,h2,h3,h4,h5⟩ hj
  refine ⟨⟨by omega,by omega⟩,bifP (fun hp=>?_) fun hp=>bifP (fun hq=>?_) fun hq=>?_⟩
  ·refine ⟨⟨by omega,by omega⟩,(k,j+1,l),hst0 ?_,by show book.length-(j+1)<book.length-j; omega,⟨rfl,by push_cast; rfl⟩,rfl⟩
   unfold Hea.q00
   rw [show (l.getD j Cod.noG).2.2.1=false by simpa using hp]; rfl
  ·have hn:Hea.q00 pt (l.getD j Cod.noG)=true:=by
    unfold Hea.q00 Cod.ptOf
    rw [show (l.getD j Cod.noG).2.2.1=true by simpa using hp,decide_eq_true (p:=Cod.q2s (l.getD j Cod.noG).2.2.2 pt≤250000) (by
     have:decide (250000<Cod.q2s (l.getD j Cod.noG).2.2.2 pt)=false:=by simpa using hq
     have:=of_decide_eq_false this; omega)]; rfl
   refine ⟨⟨by omega,by omega⟩,?_⟩
   rw [show k.beq k=true from Nat.beq_refl k,cond_true]
   exact ⟨⟨by omega,by omega⟩,⟨by omega,by omega⟩,(k+1,j+1,l.set k (l.getD j Cod.noG)),hst1 hn,by show book.length-(j+1)<book.length-j; omega,⟨by push_cast; rfl,by push_cast; rfl⟩,rfl⟩
  ·refine ⟨⟨by omega,by omega⟩,(k,j+1,l),hst0 ?_,by show book.length-(j+1)<book.length-j; omega,⟨rfl,by push_cast; rfl⟩,rfl⟩
   unfold Hea.q00 Cod.ptOf
   have:decide (250000<Cod.q2s (l.getD j Cod.noG).2.2.2 pt)=true:=by simpa using hq
   rw [decide_eq_false (p:=Cod.q2s (l.getD j Cod.noG).2.2.2 pt≤250000) (by have:=of_decide_eq_true this; omega),Bool.and_false]
 ·have hle:l.length≤j:=by have:=of_decide_eq_false hb2; omega
  have hfl:book.filter (Hea.q00 pt)=l.take k:=by rw [h4,List.take_of_length_le (by omega)]
  have hlen:(l.take k++List.replicate (l.length-k) Cod.noG).length=l.length:=by rw [List.length_append,List.length_take,List.length_replicate]; omega
  have htk:(l.take k++List.replicate (l.length-k) Cod.noG).take k=l.take k:=by rw [List.take_append_of_le_length (by rw [List.length_take]; omega),List.take_take,Nat.min_self]
  refine ⟨⟨by omega,by omega⟩,⟨by omega,by rw [hlen]; omega⟩,⟨(0,[]),⟨Nat.zero_le _,Nat.le_refl _,rfl⟩,⟨rfl,by rw [htk,hfl]⟩,rfl,by rw [htk,hfl]⟩,hF⟩
theorem far1_ok {e:Cod.Ear} {book:q0f} {pt:Cod.Pt} {w:List (List UInt8)} {R:List UInt8×Bool×Int} (hb:book.length≤1000000) (hF:q6h e book pt w R) (hR:R=Hea.q0h (Hea.q04 e) e.ws w (book.filter (Hea.q00 pt)) []):FarR1 e book pt w R:=by
 unfold FarR1
 simp only [true_and,and_true]
 refine ⟨⟨0,⟨Nat.zero_le _,rfl⟩,rfl⟩,?_⟩
 rintro k ⟨hk,ha⟩
 have hti:((k:Int).toNat)=k:=rfl
 simp only [hti]
 refine bifP (fun hb2=>?_) fun hb2=>?_
 ·have hlt:k<book.length:=by have:=of_decide_eq_true hb2; omega
  have hst:∀ h:Hea.q00 pt (book.getD k Cod.noG)=false,q3i book pt k (k+1) book:=fun h=>by
   refine ⟨by omega,hlt,rfl,?_,rfl⟩
   rw [Snd.q21 book Cod.noG k hlt,List.filter_append,List.filter_cons_of_neg (by rw [h]; decide),List.filter_nil,List.append_nil,List.filter_eq_self.2 (List.all_eq_true.1 ha)]
  refine ⟨⟨by omega,by omega⟩,bifP (fun hp=>?_) fun hp=>bifP (fun hd=>?_) fun hd=>?_⟩
  ·refine ⟨⟨by omega,by omega⟩,⟨(k,k+1,book),hst ?_,⟨rfl,by push_cast; rfl⟩,rfl⟩,del1_ok hb hF⟩
   unfold Hea.q00
   rw [show (book.getD k Cod.noG).2.2.1=false by simpa using hp]; rfl
  ·refine ⟨⟨by omega,by omega⟩,⟨(k,k+1,book),hst ?_,⟨rfl,by push_cast; rfl⟩,rfl⟩,del1_ok hb hF⟩
   unfold Hea.q00 Cod.ptOf
   rw [decide_eq_false (p:=Cod.q2s (book.getD k Cod.noG).2.2.2 pt≤250000) (by have:=of_decide_eq_true hd; omega),Bool.and_false]
  ·refine ⟨⟨by omega,by omega⟩,k+1,⟨hlt,?_⟩,by omega,by push_cast; rfl⟩
   rw [Snd.q4i book Cod.noG _ k hlt,ha,Bool.true_and]
   unfold Hea.q00 Cod.ptOf
   rw [show (book.getD k Cod.noG).2.2.1=true by simpa using hp,decide_eq_true (p:=Cod.q2s (book.getD k Cod.noG).2.2.2 pt≤250000) (by have:=of_decide_eq_false hd; omega)]; rfl
 ·have hle:book.length≤k:=by have:=of_decide_eq_false hb2; omega
  rw [Snd.q73 book _ k hle] at ha
  have hfl:book.filter (Hea.q00 pt)=book:=List.filter_eq_self.2 (List.all_eq_true.1 ha)
  refine ⟨⟨(0,[]),⟨Nat.zero_le _,Nat.le_refl _,rfl⟩,⟨rfl,by rw [hfl]⟩,rfl,hfl.symm⟩,hF⟩
theorem far2_ok {e:Cod.Ear} {book:q0f} {pt:Cod.Pt} {w:List (List UInt8)} {R:List UInt8×Bool×Int} (hb:book.length≤1000000) (hF:q6h e book pt w R) (hR:R=Hea.q0h (Hea.q04 e) e.ws w (book.filter (Hea.q00 pt)) []):FarR2 e book pt w R:=by
 unfold FarR2
 simp only [true_and,and_true]
 refine ⟨⟨0,⟨Nat.zero_le _,rfl⟩,rfl⟩,?_⟩
 rintro k ⟨hk,ha⟩
 have hti:((k:Int).toNat)=k:=rfl
 simp only [hti]
 refine bifP (fun hb2=>?_) fun hb2=>?_
 ·have hlt:k<book.length:=by have:=of_decide_eq_true hb2; omega
  have hst:∀ h:Hea.q00 pt (book.getD k Cod.noG)=false,q3i book pt k (k+1) book:=fun h=>by
   refine ⟨by omega,hlt,rfl,?_,rfl⟩
   rw [Snd.q21 book Cod.noG k hlt,List.filter_append,List.filter_cons_of_neg (by rw [h]; decide),List.filter_nil,List.append_nil,List.filter_eq_self.2 (List.all_eq_true.1 ha)]
  refine ⟨⟨by omega,by omega⟩,bifP (fun hp=>?_) fun hp=>bifP (fun hd=>?_) fun hd=>?_⟩
  ·refine ⟨⟨by omega,by omega⟩,⟨(k,k+1,book),hst ?_,⟨rfl,by push_cast; rfl⟩,rfl⟩,del2_ok hb hF⟩
   unfold Hea.q00
   rw [show (book.getD k Cod.noG).2.2.1=false by simpa using hp]; rfl
  ·refine ⟨⟨by omega,by omega⟩,⟨(k,k+1,book),hst ?_,⟨rfl,by push_cast; rfl⟩,rfl⟩,del2_ok hb hF⟩
   unfold Hea.q00 Cod.ptOf
   rw [decide_eq_false (p:=Cod.q2s (book.getD k Cod.noG).2.2.2 pt≤250000) (by have:=of_decide_eq_true hd; omega),Bool.and_false]
  ·refine ⟨⟨by omega,by omega⟩,k+1,⟨hlt,?_⟩,by omega,by push_cast; rfl⟩
   rw [Snd.q4i book Cod.noG _ k hlt,ha,Bool.true_and]
   unfold Hea.q00 Cod.ptOf
   rw [show (book.getD k Cod.noG).2.2.1=true by simpa using hp,decide_eq_true (p:=Cod.q2s (book.getD k Cod.noG).2.2.2 pt≤250000) (by have:=of_decide_eq_false hd; omega)]; rfl
 ·have hle:book.length≤k:=by have:=of_decide_eq_false hb2; omega
  rw [Snd.q73 book _ k hle] at ha
  have hfl:book.filter (Hea.q00 pt)=book:=List.filter_eq_self.2 (List.all_eq_true.1 ha)
  refine ⟨⟨(0,[]),⟨Nat.zero_le _,Nat.le_refl _,rfl⟩,⟨rfl,by rw [hfl]⟩,rfl,hfl.symm⟩,hF⟩
end Go.Proofs.YtfecgebhoondjaaGreatDoor
set_option linter.unusedVariables false
namespace Go.Proofs.YtfecgebhoondjaaGreatDoor
open Go.RowKit
open R
set_option maxRecDepth 100000 in
theorem here_vc (e:Cod.Ear) (book:q0f) (pt:Cod.Pt) (text:List UInt8) (h:cHere.pre ((e.lang,e.ws),e.c,book,pt,text)) :
  (q13 (e.lang,e.ws)∧q0u e.c∧q4p book)∧bif !e.proper book then ([],false,(1:Int))=Hea.q4q e book pt text else True∧bif !Cod.onB pt then ([],false,(1:Int)) =
  Hea.q4q e book pt text else (∃ (p':Bool×List UInt8×List (List UInt8)),q3x text p'.1 p'.2.1 p'.2.2∧(true=p'.1∧True∧True∧True)∧((text=p'.2.1∧True)∧(True∧True ∧
  True)∧(e.c=e.c∧True)∧(True∧True)∧(false=false∧True)∧(True∧True)∧(e.lang=e.lang∧e.ws=e.ws∧True)∧(pt.1=pt.1∧pt.2=pt.2∧True)∧True)∧(p'.2.2=[] ∧
  True)∧True∧True∧(True∧True∧True∧book=book∧True∧True∧True)∧True∧True∧True∧True∧(True∧True∧True∧True)∧True)∧∀ (p:Bool×List UInt8×List (List
  UInt8)),q3x text p.1 p.2.1 p.2.2→bif p.1 then (p.2.1.length≤(1000000:Nat)∧[(32:UInt8)]=[(32:UInt8)])∧(cutF p.2.1).1.length≤(1000000:Nat)∧bif (cutF p.2.1).1.any fun
  (c:UInt8)=>!Snd.letB c then ([],false,(5:Int))=Hea.q4q e book pt text else bif (cutF p.2.1).1==[] then ([],false,(5:Int))=Hea.q4q e book pt text else bif decide ((12 :
  Int)<(↑(cutF p.2.1).1.length:Int)) then ([],false,(5:Int))=Hea.q4q e book pt text else bif (p.2.2.length:Int)==(5:Int) then ([],false,(5:Int))=Hea.q4q e book pt
  text else ((p.2.2.length+[(cutF p.2.1).1].length)*(16:Nat)≤(140737488355328:Nat)∧∃ (p':Bool×List UInt8×List (List UInt8)),q3x text p'.1 p'.2.1 p'.2.2∧((if p'.1=true
  then p'.2.1.length+(1:Nat) else (0:Nat))<if p.1=true then p.2.1.length+(1:Nat) else (0:Nat))∧((cutF p.2.1).2.2=p'.1∧True∧True∧True)∧(((cutF p.2.1).2.1=p'.2.1 ∧
  True)∧(True∧True∧True)∧(e.c=e.c∧True)∧(True∧True)∧(false=false∧True)∧(True∧True)∧(e.lang=e.lang∧e.ws=e.ws∧True)∧(pt.1=pt.1∧pt.2=pt.2∧True) ∧
  True)∧(p.2.2++[(cutF p.2.1).1]=p'.2.2∧True)∧True∧True∧(True∧True∧True∧book=book∧True∧True∧True)∧True∧True∧True∧True∧(True∧True∧True∧True)∧True)
  ∧ ((p.2.2.length+[(cutF p.2.1).1].length)*(16:Nat)≤(140737488355328:Nat)∧∃ (p':Bool×List UInt8×List (List UInt8)),q3x text p'.1 p'.2.1 p'.2.2∧((if p'.1=true then
  p'.2.1.length+(1:Nat) else (0:Nat))<if p.1=true then p.2.1.length+(1:Nat) else (0:Nat))∧((cutF p.2.1).2.2=p'.1∧True∧True∧True)∧(((cutF p.2.1).2.1=p'.2.1∧True)
  ∧ (True∧True∧True)∧(e.c=e.c∧True)∧(True∧True)∧(false=false∧True)∧(True∧True)∧(e.lang=e.lang∧e.ws=e.ws∧True)∧(pt.1=pt.1∧pt.2=pt.2∧True)∧True) ∧
  (p.2.2++[(cutF p.2.1).1]=p'.2.2∧True)∧True∧True∧(True∧True∧True∧book=book∧True∧True∧True)∧True∧True∧True∧True∧(True∧True∧True∧True)∧True) ∧
  (p.2.2.length+[(cutF p.2.1).1].length)*(16:Nat)≤(140737488355328:Nat)∧∃ (p':Bool×List UInt8×List (List UInt8)),q3x text p'.1 p'.2.1 p'.2.2∧((if p'.1=true then
  p'.2.1.length+(1:Nat) else (0:Nat))<if p.1=true then p.2.1.length+(1:Nat) else (0:Nat))∧((cutF p.2.1).2.2=p'.1∧True∧True∧True)∧(((cutF p.2.1).2.1=p'.2.1∧True)
  ∧ (True∧True∧True)∧(e.c=e.c∧True)∧(True∧True)∧(false=false∧True)∧(True∧True)∧(e.lang=e.lang∧e.ws=e.ws∧True)∧(pt.1=pt.1∧pt.2=pt.2∧True)∧True) ∧
  (p.2.2++[(cutF p.2.1).1]=p'.2.2∧True)∧True∧True∧(True∧True∧True∧book=book∧True∧True∧True)∧True∧True∧True∧True∧(True∧True∧True∧True)∧True else
  (List.length book≤(1000000:Nat)∧FarR1 e book pt p.2.2 (Hea.q4q e book pt text))∧List.length book≤(1000000:Nat)∧(FarR1 e book pt p.2.2 (Hea.q4q e book pt text))∧FarR2 e
  book pt p.2.2 (Hea.q4q e book pt text)
  := by
 obtain ⟨hW,hC,hB,hT⟩:=h
 have hT:text.length≤1000:=hT
 simp only [true_and,and_true]
 refine ⟨⟨hW,hC,hB⟩,bifP (fun hb=>?_) fun hb=>?_⟩
 ·unfold Hea.q4q
  rw [show e.proper book=false by simpa using hb]; rfl
 have hp:e.proper book=true:=by simpa using hb
 refine bifP (fun hb=>?_) fun hb=>?_
 ·unfold Hea.q4q
  rw [hp,show Cod.onB pt=false by simpa using hb]; rfl
 have ho:Cod.onB pt=true:=by simpa using hb
 have hh:Hea.q4q e book pt text=match Hea.q86 text with
   | none=>([],false,5)
   | some words=>Hea.q0h (Hea.q04 e) e.ws words (book.filter (Hea.q00 pt)) []:=by
  unfold Hea.q4q
  rw [hp,ho]; rfl
 refine ⟨⟨(true,text,[]),⟨rfl,rfl,Nat.zero_le _,Nat.le_refl _⟩,rfl,rfl,rfl⟩,?_⟩
 rintro ⟨more,rest,w⟩ hlis
 have hlis:q3x text more rest w:=hlis
 have hlw:w.length≤5:=hlis.2.2.1
 have hlr:rest.length≤text.length:=hlis.2.2.2
 dsimp only
 refine bifP (fun hb=>?_) fun hb=>?_
 ·obtain rfl:more=true:=hb
  have bad:Hea.q6q (cutF rest).1=false∨w.length=5→([],false,(5:Int))=Hea.q4q e book pt text:=fun h=>by
   rw [hh,Hea.lis_bad hlis h]
  have hcl:(cutF rest).1.length≤1000000:=by
   unfold cutF
   split
   ·dsimp only; rw [List.length_take]; omega
   ·dsimp only; omega
  refine ⟨by omega,hcl,bifP (fun hb=>bad (.inl (Hea.q8j (.inl hb)))) fun h1=>bifP (fun hb=>bad (.inl (Hea.q8j (.inr (.inl hb))))) fun h2=>bifP (fun hb=>bad (.inl (Hea.q8j (.inr (.inr (of_decide_eq_true hb)))))) fun h3=>bifP (fun hb=>bad (.inr (by have:=eq_of_beq hb; omega))) fun h4=>?_⟩
  have h5:w.length<5:=by rw [beq_eq_false_iff_ne] at h4; omega
  have hst:=Hea.lis_step hlis (Hea.word_of h1 h2 (of_decide_eq_false h3)) h5
  have hg:(w.length+[(cutF rest).1].length)*16≤140737488355328∧∃ p':Bool×List UInt8×List (List UInt8),q3x text p'.1 p'.2.1 p'.2.2∧((if p'.1=true then p'.2.1.length+1 else 0)<if true=true then rest.length+1 else 0)∧(cutF rest).2.2=p'.1∧(cutF rest).2.1=p'.2.1∧w++[(cutF rest).1]=p'.2.2 :=
   ⟨by rw [List.length_singleton]; omega,((cutF rest).2.2,(cutF rest).2.1,w++[(cutF rest).1]),hst,Hea.lis_less,rfl,rfl,rfl⟩
  exact ⟨hg,hg,hg⟩
 ·obtain rfl:more=false:=hb
  have hv:Hea.q4q e book pt text=Hea.q0h (Hea.q04 e) e.ws w (book.filter (Hea.q00 pt)) []:=by rw [hh,Hea.lis_end hlis]
  have hwl:∀ s∈w,s.length≤1000000:=fun s hs=>by
   have:=List.all_eq_true.1 hlis.2.1 s hs
   unfold Hea.q6q at this
   simp only [Bool.and_eq_true,decide_eq_true_eq] at this
   omega
  have hF:=findR_ok (pt:=pt) hp hC hW.2.2 hlw hwl hB.1 hv
  exact ⟨⟨hB.1,far1_ok hB.1 hF hv⟩,hB.1,far1_ok hB.1 hF hv,far2_ok hB.1 hF hv⟩
end Go.Proofs.YtfecgebhoondjaaGreatDoor

/-
  Several texts in one: HeR, HeS, HeT, R15N.
-/
import Derived.Test.YtfecgebhoondjaaGreatDoorPR
import Derived.Test.YtfecgebhoondjaaGreatDoorPP
import Derived.Test.YtfecgebhoondjaaGreatDoorPL
import Derived.OpenShut
set_option linter.unusedVariables false
namespace Go.Proofs.YtfecgebhoondjaaGreatDoor
open Go.RowKit
open R
def cOn07:Con:=.of 56 [ckPt] [q2v] (fun _=>True) Cod.onB
def cDist07:Con:=.of 60 [ckPt,ckPt] [qa7] (fun _=>True) (fun p=>Cod.q1d p.1 p.2)
def cNear42:Con:=.of 27 [q5v,ckPt] [q5v] (fun p=>List.length p.1≤1000) (fun p=>List.filter (Hea.q00 p.2) p.1)
def anNear42 (book:q0d) (p:Cod.Pt):List (Nat×Ann) :=
 [annX 0 Nat (fun st k=>st.hd { live:=[0,3],sav:=[],box:=[3] } [(5,ownAV 34),(6,R.int .i64 k)] [] [(34,q88 ((book.take k).filter (Hea.q00 p)))] [] none)
  (fun _ k=>k≤book.length)
  (fun _ k=>book.length-k)]
def fewH (l:WlP) (c:CfP) (book:q0d) (text:List UInt8):Bool:=q5l l c book 8&&decide (text.length≤100)
def cFew42:Con:=.of 17 [ckWl,ckCf,q5v,q30] [q2v] (fun _=>True) (fun p=>fewH p.1 p.2.1 p.2.2.1 p.2.2.2)
def bk42:q0d:=[([101,49],[0,0,3],false,0,0),([101,50],[1,3,0],false,0,0)]
def q1m:List (List UInt8):=[[98,97,100,32,98,97,100,32,115,101,97],[98,97,100,32,112,97,100,32,115,101,97],[98,97,100,32,115,101,97],[98,97,100,32,115,101,97,32,98,97,100],[115,101,97,32,98,97,110,32,98,97,100],[112,97,110,32,115,101,97,32,98,97,100]]
def q2u:List (List UInt8):=[[101,49],[101,49],[101,49],[101,49],[101,50],[101,50]]
def wd42:List (List UInt8):=[[98,97,100],[98,97,110],[112,97,110],[115,101,97]]
def cf42:CfP:=[([98],[112])]
def e42:Cod.Ear:=⟨[101,110],wd42,cf42⟩
def confRow (l:CfP):Row:=⟨72,kCf,l⟩
def cHead42:Con:=.of 16 [] [q2v] (fun _=>True) (fun _=>true)
def anHead42:List (Nat×Ann) :=
 [annX 0 Nat (fun st k=>st.hd { live:=[1,2,3,5,6],sav:=[],box:=[1] } [(4,R.bool true),(7,R.int .i64 k)] [] [(20,q5u wd42),(23,confRow cf42),(28,q88 bk42),(29,q5u q1m),(30,q5u q2u)] [] none)
  (fun _ k=>k≤6)
  (fun _ k=>6-k),
 q9g 10]
theorem ex_hear0:Hea.q0n e42 bk42 (q1m.getD 0 [])=(q2u.getD 0 [],false,0):=by kernel_rfl
theorem ex_hear1:Hea.q0n e42 bk42 (q1m.getD 1 [])=(q2u.getD 1 [],true,0):=by kernel_rfl
theorem ex_hear2:Hea.q0n e42 bk42 (q1m.getD 2 [])=(q2u.getD 2 [],true,0):=by kernel_rfl
theorem ex_hear3:Hea.q0n e42 bk42 (q1m.getD 3 [])=(q2u.getD 3 [],true,0):=by kernel_rfl
theorem ex_hear4:Hea.q0n e42 bk42 (q1m.getD 4 [])=(q2u.getD 4 [],true,0):=by kernel_rfl
theorem ex_hear5:Hea.q0n e42 bk42 (q1m.getD 5 [])=(q2u.getD 5 [],true,0):=by kernel_rfl
theorem ex_hear {k:Nat} (hk:k<6):Hea.q0n e42 bk42 (q1m.getD k [])=(q2u.getD k [],decide ((0:Int)<(k:Int)),0):=by
 match k with
 | 0=>exact ex_hear0
 | 1=>exact ex_hear1
 | 2=>exact ex_hear2
 | 3=>exact ex_hear3
 | 4=>exact ex_hear4
 | 5=>exact ex_hear5
 | n+6=>omega
def cHOrder:Con:=.of 5 [ckWl,ckCf,q5v,ckPt,q30] [q2v] (fun p=>CK.Big ckWl p.1∧CK.Big ckCf p.2.1∧CK.Big q5v p.2.2.1∧CK.Big ckPt p.2.2.2.1∧CK.Big q30 p.2.2.2.2) (fun _=>true)
def anHOrder (book:q0d):List (Nat×Ann) :=
 [annX 0 Nat (fun st k=>st.hd { live:=[1,2,4,5,8,11],sav:=[],box:=[5,8] } [(12,ownAV 47),(13,R.int .i64 ((book.length:Int)-1-k))] [] [(47,q88 (book.reverse.take k))] [] none)
    (fun _ k=>k≤book.length)
    (fun _ k=>book.length-k)]
def consHOrder:List Con:=[cHead42,cFew42,cHear,cHere,cOn,cNear42]
end Go.Proofs.YtfecgebhoondjaaGreatDoor
set_option linter.unusedVariables false
namespace Go.Proofs.YtfecgebhoondjaaGreatDoor
open Go.RowKit
open R
theorem fewH_out {lang:List UInt8} {ws:List (List UInt8)} {c:CfP} {book:q0d} {text:List UInt8} (h:fewH (lang,ws) c book text=true):q1g (lang,ws)∧q0t c∧q3y book∧text.length≤100∧book.length≤8:=by
 unfold fewH at h
 rw [Bool.and_eq_true,decide_eq_true_eq] at h
 obtain ⟨hW,hC,hg,hl,hws⟩:=few_out41 h.1
 exact ⟨hW,hC,longB_of hg hl (by omega),h.2,by omega⟩
theorem on07_vc (p:Int×Int) (h:cOn07.pre p) :
  bif decide ((0:Int)≤p.1) then bif decide (p.1≤(32767:Int)) then bif decide ((0:Int)≤p.2) then decide (p.2≤(32767:Int))=Cod.onB p else false=Cod.onB p else false=Cod.onB
  p else false=Cod.onB p
  := by
 have hv:Cod.onB p=(decide (0≤p.1)&&(decide (p.1≤32767)&&(decide (0≤p.2)&&decide (p.2≤32767)))):=by
  rw [Bool.eq_iff_iff]
  unfold Cod.onB
  simp only [Bool.and_eq_true,decide_eq_true_eq]
  omega
 rw [hv]
 refine bifP (fun h1=>?_) fun h1=>?_
 ·rw [h1]
  refine bifP (fun h2=>?_) fun h2=>?_
  ·rw [h2]
   refine bifP (fun h3=>?_) fun h3=>?_
   ·rw [h3]; rfl
   ·rw [h3]; rfl
  ·rw [h2]; rfl
 ·rw [h1]; rfl
theorem dist07_vc (p q:Int×Int) (h:cDist07.pre (p,q)) :
  True∧bif !Cod.onB p then (0:Int)=Cod.q1d p q else True∧bif !Cod.onB q then (0:Int)=Cod.q1d p q else ((-9223372036854775808:Int)≤p.1-q.1∧p.1-q.1 ≤
  (9223372036854775807:Int))∧((-9223372036854775808:Int)≤p.1-q.1∧p.1-q.1≤(9223372036854775807:Int))∧((-9223372036854775808:Int)≤(p.1-q.1)*(p.1-q.1)∧(p.1-q.1)
  * (p.1-q.1)≤(9223372036854775807:Int))∧((-9223372036854775808:Int)≤p.2-q.2∧p.2-q.2≤(9223372036854775807:Int))∧((-9223372036854775808:Int)≤p.2-q.2∧p.2-q.2 ≤
  (9223372036854775807:Int))∧((-9223372036854775808:Int)≤(p.2-q.2)*(p.2-q.2)∧(p.2-q.2)*(p.2-q.2)≤(9223372036854775807:Int))∧((-9223372036854775808:Int)≤(p.1 -
  q.1)*(p.1-q.1)+(p.2-q.2)*(p.2-q.2)∧(p.1-q.1)*(p.1-q.1)+(p.2-q.2)*(p.2-q.2)≤(9223372036854775807:Int))∧(p.1-q.1)*(p.1-q.1)+(p.2-q.2)*(p.2-q.2)
  = Cod.q1d p q
  := by
 simp only [true_and,and_true]
 refine bifP (fun h1=>?_) fun h1=>bifP (fun h2=>?_) fun h2=>?_
 ·unfold Cod.q1d
  rw [show Cod.onB p=false by simpa using h1,Bool.false_and,if_neg (by decide)]
 ·unfold Cod.q1d
  rw [show Cod.onB q=false by simpa using h2,Bool.and_false,if_neg (by decide)]
 ·have hp:Cod.onB p=true:=by simpa using h1
  have hq:Cod.onB q=true:=by simpa using h2
  obtain ⟨⟨a1,a2⟩,a3,a4⟩:=Cod.qcc hp
  obtain ⟨⟨b1,b2⟩,b3,b4⟩:=Cod.qcc hq
  have m1:=Cod.qb5 (a:=p.1-q.1) (b:=p.1-q.1) (by omega) (by omega) (by omega) (by omega)
  have m2:=Cod.qb5 (a:=p.2-q.2) (b:=p.2-q.2) (by omega) (by omega) (by omega) (by omega)
  refine ⟨⟨by omega,by omega⟩,⟨by omega,by omega⟩,⟨by omega,by omega⟩,⟨by omega,by omega⟩,⟨by omega,by omega⟩,⟨by omega,by omega⟩,⟨by omega,by omega⟩,?_⟩
  rw [Cod.dist_symm]
  unfold Cod.q1d Cod.sq
  rw [hp,hq,Bool.and_self,if_pos rfl]
set_option maxRecDepth 100000 in
theorem near42_vc (book:q0d) (pt:Int×Int) (h:cNear42.pre (book,pt)) :
  (∃ (p':Nat),p'≤List.length book∧(True∧(0:Int)=(p':Int)∧book=book∧True∧True)∧((pt.1=pt.1∧pt.2=pt.2∧True)∧True)∧(List.filter (Hea.q00 pt) (List.take p'
  book)=[]∧True)∧True∧True∧True∧True∧True∧True∧True)∧∀ (p:Nat),p≤List.length book→bif decide ((p:Int)<(↑(List.length book):Int)) then ((0:Int)≤(p:Int)
  ∧ (p:Int)<(↑(List.length book):Int))∧bif (List.getD book (p:Int).toNat Cod.noG).2.2.1 then ((0:Int)≤(p:Int)∧(p:Int)<(↑(List.length book):Int))∧True∧bif decide
  (Cod.q1d (List.getD book (p:Int).toNat Cod.noG).2.2.2 pt≤(250000:Int)) then ((0:Int)≤(p:Int)∧(p:Int)<(↑(List.length book):Int))∧((List.filter (Hea.q00 pt)
  (List.take p book)).length+[List.getD book (p:Int).toNat Cod.noG].length)*(64:Nat)≤(140737488355328:Nat)∧((-9223372036854775808:Int)≤(p:Int)+(1:Int)∧(p:Int) +
  (1:Int)≤(9223372036854775807:Int))∧∃ (p':Nat),p'≤List.length book∧List.length book-p'<List.length book-p∧(True∧(p:Int)+(1:Int)=(p':Int)∧book=book ∧
  True∧True)∧((pt.1=pt.1∧pt.2=pt.2∧True)∧True)∧(List.filter (Hea.q00 pt) (List.take p book)++[List.getD book (p:Int).toNat Cod.noG]=List.filter (Hea.q00 pt)
  (List.take p' book)∧True)∧True∧True∧True∧True∧True∧True∧True else ((-9223372036854775808:Int)≤(p:Int)+(1:Int)∧(p:Int)+(1:Int)≤(9223372036854775807 :
  Int))∧∃ (p':Nat),p'≤List.length book∧List.length book-p'<List.length book-p∧(True∧(p:Int)+(1:Int)=(p':Int)∧book=book∧True∧True)∧((pt.1=pt.1∧pt.2
  = pt.2∧True)∧True)∧(List.filter (Hea.q00 pt) (List.take p book)=List.filter (Hea.q00 pt) (List.take p' book)∧True)∧True∧True∧True∧True∧True∧True∧True else
  ((-9223372036854775808:Int)≤(p:Int)+(1:Int)∧(p:Int)+(1:Int)≤(9223372036854775807:Int))∧∃ (p':Nat),p'≤List.length book∧List.length book-p'<List.length
  book-p∧(True∧(p:Int)+(1:Int)=(p':Int)∧book=book∧True∧True)∧((pt.1=pt.1∧pt.2=pt.2∧True)∧True)∧(List.filter (Hea.q00 pt) (List.take p book) =
  List.filter (Hea.q00 pt) (List.take p' book)∧True)∧True∧True∧True∧True∧True∧True∧True else List.filter (Hea.q00 pt) (List.take p book)=List.filter (Hea.q00 pt) book
  := by
 have hl:book.length≤1000:=h
 simp only [true_and,and_true]
 refine ⟨⟨0,Nat.zero_le _,rfl,rfl⟩,?_⟩
 intro k hk
 have hti:((k:Int).toNat)=k:=rfl
 simp only [hti]
 refine bifP (fun hb=>?_) fun hb=>?_
 ·have hlt:k<book.length:=by have:=of_decide_eq_true hb; omega
  have hfl:=List.length_filter_le (Hea.q00 pt) (book.take k)
  rw [List.length_take] at hfl
  have hst:=Snd.q1s book Cod.noG k hlt
  have hno:Hea.q00 pt (book.getD k Cod.noG)=false→(book.take k).filter (Hea.q00 pt)=(book.take (k+1)).filter (Hea.q00 pt):=fun hn=>by
   rw [hst,List.filter_append,List.filter_cons_of_neg (by rw [hn]; decide),List.filter_nil,List.append_nil]
  refine ⟨⟨by omega,by omega⟩,bifP (fun hp=>⟨⟨by omega,by omega⟩,bifP (fun hd=>?_) fun hd=>?_⟩) fun hp=>?_⟩
  ·refine ⟨⟨by omega,by omega⟩,by rw [List.length_singleton]; omega,⟨by omega,by omega⟩,k+1,hlt,by omega,by push_cast; rfl,?_⟩
   have hn:Hea.q00 pt (book.getD k Cod.noG)=true:=by
    unfold Hea.q00 Cod.ptOf
    rw [hp,hd]; rfl
   rw [hst,List.filter_append,List.filter_cons_of_pos hn,List.filter_nil]
  ·refine ⟨⟨by omega,by omega⟩,k+1,hlt,by omega,by push_cast; rfl,hno ?_⟩
   unfold Hea.q00 Cod.ptOf
   rw [hd,Bool.and_false]
  ·refine ⟨⟨by omega,by omega⟩,k+1,hlt,by omega,by push_cast; rfl,hno ?_⟩
   unfold Hea.q00
   rw [hp]; rfl
 ·rw [List.take_of_length_le (by have:=of_decide_eq_false hb; omega)]
theorem few42_vc (lang:List UInt8) (ws:List (List UInt8)) (c:CfP) (book:q0d) (text:List UInt8) (h:cFew42.pre ((lang,ws),c,book,text)) :
  (8:Int)≤(1000:Int)∧bif q5l (lang,ws) c book (8:Int) then decide ((text.length:Int)≤(100:Int))=fewH (lang,ws) c book text else false=fewH (lang,ws) c book text
  := by
 refine ⟨by omega,bifP (fun hb=>?_) fun hb=>?_⟩
 ·unfold fewH
  rw [hb,Bool.true_and]
  exact decide_eq_decide.2 (by omega)
 ·unfold fewH
  rw [hb]; rfl
abbrev qbw:Prop :=
 (([(101:UInt8),(110:UInt8)]=[(101:UInt8),(110:UInt8)]∧True∧True)∧True)
set_option maxRecDepth 100000 in
theorem head42_vc (h:cHead42.pre ()) :
  (∃ (p':Nat),p'≤(6:Nat)∧(true=true∧(0:Int)=(p':Int)∧True∧True∧True∧True∧True∧True)∧qbw∧([[(98:UInt8),(97:UInt8),(100:UInt8)],[(98:UInt8),(97:UInt8),(110:UInt8)],[(112:UInt8),(97:UInt8),(110:UInt8)],[(115:UInt8),(101:UInt8),(97:UInt8)]]=wd42∧[([(98:UInt8)],[(112:UInt8)])]=cf42∧[([(101:UInt8),(49:UInt8)],[(0:Int),(0:Int),(3:Int)],false,(0:Int),(0:Int)),([(101:UInt8),(50:UInt8)],[(1:Int),(3:Int),(0:Int)],false,(0:Int),(0:Int))]=bk42∧[[(98:UInt8),(97:UInt8),(100:UInt8),(32:UInt8),(98:UInt8),(97:UInt8),(100:UInt8),(32:UInt8),(115:UInt8),(101:UInt8),(97:UInt8)],[(98:UInt8),(97:UInt8),(100:UInt8),(32:UInt8),(112:UInt8),(97:UInt8),(100:UInt8),(32:UInt8),(115:UInt8),(101:UInt8),(97:UInt8)],[(98:UInt8),(97:UInt8),(100:UInt8),(32:UInt8),(115:UInt8),(101:UInt8),(97:UInt8)],[(98:UInt8),(97:UInt8),(100:UInt8),(32:UInt8),(115:UInt8),(101:UInt8),(97:UInt8),(32:UInt8),(98:UInt8),(97:UInt8),(100:UInt8)],[(115:UInt8),(101:UInt8),(97:UInt8),(32:UInt8),(98:UInt8),(97:UInt8),(110:UInt8),(32:UInt8),(98:UInt8),(97:UInt8),(100:UInt8)],[(112:UInt8),(97:UInt8),(110:UInt8),(32:UInt8),(115:UInt8),(101:UInt8),(97:UInt8),(32:UInt8),(98:UInt8),(97:UInt8),(100:UInt8)]]=q1m∧[[(101:UInt8),(49:UInt8)],[(101:UInt8),(49:UInt8)],[(101:UInt8),(49:UInt8)],[(101:UInt8),(49:UInt8)],[(101:UInt8),(50:UInt8)],[(101:UInt8),(50:UInt8)]]=q2u∧True)∧True∧True∧True∧True∧True∧True∧True)∧∀ (p:Nat),p≤(6:Nat)→bif decide ((p:Int)<(q1m.length:Int)) then (0≤(p:Int)∧(p:Int)<(q1m.length:Int))∧(q1g ([(101:UInt8),(110:UInt8)],wd42)∧q0t cf42∧q3y bk42∧(q1m.getD (p:Int).toNat []).length≤(1000:Nat))∧bif (Hea.q0n { lang:=[(101:UInt8),(110:UInt8)],ws:=wd42,c:=cf42 } bk42 (q1m.getD (p:Int).toNat [])).2.2==(0:Int) then (0≤(p:Int)∧(p:Int)<(q2u.length:Int))∧bif (Hea.q0n { lang:=[(101:UInt8),(110:UInt8)],ws:=wd42,c:=cf42 } bk42 (q1m.getD (p:Int).toNat [])).1==q2u.getD (p:Int).toNat [] then (zFit ((p:Int)+1))∧∃ (p':Nat),p'≤(6:Nat)∧(6:Nat)-p'<(6:Nat)-p∧(((Hea.q0n { lang:=[(101:UInt8),(110:UInt8)],ws:=wd42,c:=cf42 } bk42 (q1m.getD (p:Int).toNat [])).2.1==decide (0<(p:Int)))=true∧(p:Int)+1=(p':Int)∧True∧True∧True∧True∧True∧True)∧qbw∧(wd42=wd42∧cf42=cf42∧bk42=bk42∧q1m=q1m∧q2u=q2u∧True)∧True∧True∧True∧True∧True∧True∧True else (zFit ((p:Int)+1))∧∃ (p':Nat),p'≤(6:Nat)∧(6:Nat)-p'<(6:Nat)-p∧(false=true∧(p:Int)+1=(p':Int)∧True∧True∧True∧True∧True∧True)∧qbw∧(wd42=wd42∧cf42=cf42∧bk42=bk42∧q1m=q1m∧q2u=q2u∧True)∧True∧True∧True∧True∧True∧True∧True else (zFit ((p:Int)+1))∧∃ (p':Nat),p'≤(6:Nat)∧(6:Nat)-p'<(6:Nat)-p∧(false=true∧(p:Int)+1=(p':Int)∧True∧True∧True∧True∧True∧True)∧qbw∧(wd42=wd42∧cf42=cf42∧bk42=bk42∧q1m=q1m∧q2u=q2u∧True)∧True∧True∧True∧True∧True∧True∧True else (q1g ([(101:UInt8),(110:UInt8)],wd42)∧q0t cf42∧q3y bk42∧[(98:UInt8),(97:UInt8),(110:UInt8),(32:UInt8),(98:UInt8),(97:UInt8),(110:UInt8),(32:UInt8),(98:UInt8),(97:UInt8),(110:UInt8)].length≤(1000:Nat))∧(q1g ([(101:UInt8),(110:UInt8)],wd42)∧q0t cf42∧q3y bk42∧[(98:UInt8),(97:UInt8),(100:UInt8),(32:UInt8),(32:UInt8),(115:UInt8),(101:UInt8),(97:UInt8)].length≤(1000:Nat))∧(q1g ([(101:UInt8),(110:UInt8)],wd42)∧q0t cf42∧q3y bk42∧[(98:UInt8),(97:UInt8),(100:UInt8),(32:UInt8),(98:UInt8),(97:UInt8),(100:UInt8),(32:UInt8),(115:UInt8),(101:UInt8),(97:UInt8)].length≤(1000:Nat))∧((10:Int)==(10:Int))=true:=by
 delta qbw zFit
 have hlong:q1g ([101,110],wd42)∧q0t cf42∧q3y bk42:=by
  refine ⟨⟨by decide,by decide,by decide⟩,⟨by decide,by decide⟩,by decide,by decide⟩
 simp only [true_and,and_true]
 refine ⟨⟨0,by omega,rfl,rfl,rfl,rfl,rfl,rfl⟩,?_⟩
 intro k hk
 have hti:((k:Int).toNat)=k:=rfl
 simp only [hti]
 have hs6:q1m.length=6:=rfl
 have hw6:q2u.length=6:=rfl
 refine bifP (fun hb=>?_) fun hb=>?_
 ·have hlt:k<6:=by have:=of_decide_eq_true hb; omega
  have hx:Hea.q0n ⟨[101,110],wd42,cf42⟩ bk42 (q1m.getD k [])=(q2u.getD k [],decide ((0:Int)<(k:Int)),0):=ex_hear hlt
  rw [hx]
  have hsl:∀ s∈q1m,s.length≤1000:=by decide
  refine ⟨⟨by omega,by omega⟩,⟨hlong.1,hlong.2.1,hlong.2.2,hsl _ (Snd.q1v q1m [] k (by omega))⟩,bifP (fun _=>⟨⟨by omega,by omega⟩,bifP (fun _=>⟨⟨by omega,by omega⟩,k+1,by omega,by omega,beq_self_eq_true _,by push_cast; rfl⟩) fun hf=>?_⟩) fun hf=>by simp at hf⟩
  rw [beq_self_eq_true] at hf; cases hf
 ·exact ⟨⟨hlong.1,hlong.2.1,hlong.2.2,by decide⟩,⟨hlong.1,hlong.2.1,hlong.2.2,by decide⟩,⟨hlong.1,hlong.2.1,hlong.2.2,by decide⟩,rfl⟩
set_option maxRecDepth 100000 in
theorem horder_vc (lang:List UInt8) (ws:List (List UInt8)) (c:CfP) (book:q0d) (pt:Cod.Pt) (text:List UInt8) (h:cHOrder.pre ((lang,ws),c,book,pt,text)) :
  True∧True∧bif !fewH (lang,ws) c book text then true=true else ((-9223372036854775808:Int)≤(↑(List.length book):Int)-(1:Int)∧(↑(List.length book):Int)-(1:Int) ≤
  (9223372036854775807:Int))∧(∃ (p':Nat),p'≤List.length book∧(True∧(↑(List.length book):Int)-(1:Int)=(↑(List.length book):Int)-(1:Int)-(p':Int)∧c=c∧book =
  book∧text=text∧True∧True∧true=true∧True)∧((lang=lang∧ws=ws∧True)∧(pt.1=pt.1∧pt.2=pt.2∧True)∧True)∧(List.take p' (List.reverse book)=[]∧True)∧True
  ∧ True∧True∧True∧True∧True∧True)∧∀ (p:Nat),p≤List.length book→bif decide ((0:Int)≤(↑(List.length book):Int)-(1:Int)-(p:Int)) then ((0:Int) ≤
  (↑(List.length book):Int)-(1:Int)-(p:Int)∧(↑(List.length book):Int)-(1:Int)-(p:Int)<(↑(List.length book):Int))∧((List.take p (List.reverse book)).length +
  [List.getD book ((↑(List.length book):Int)-(1:Int)-(p:Int)).toNat Cod.noG].length)*(64:Nat)≤(140737488355328:Nat)∧((-9223372036854775808:Int)≤(↑(List.length book) :
  Int)-(1:Int)-(p:Int)-(1:Int)∧(↑(List.length book):Int)-(1:Int)-(p:Int)-(1:Int)≤(9223372036854775807:Int))∧∃ (p':Nat),p'≤List.length book ∧
  List.length book-p'<List.length book-p∧(True∧(↑(List.length book):Int)-(1:Int)-(p:Int)-(1:Int)=(↑(List.length book):Int)-(1:Int)-(p':Int)∧c=c∧book
  = book∧text=text∧True∧True∧true=true∧True)∧((lang=lang∧ws=ws∧True)∧(pt.1=pt.1∧pt.2=pt.2∧True)∧True)∧(List.take p (List.reverse book)++[List.getD book
  ((↑(List.length book):Int)-(1:Int)-(p:Int)).toNat Cod.noG]=List.take p' (List.reverse book)∧True)∧True∧True∧True∧True∧True∧True∧True else (q1g (lang,ws) ∧
  q0t c∧q3y book∧text.length≤(1000:Nat))∧(q1g (lang,ws)∧q0t c∧q3y (List.take p (List.reverse book))∧text.length≤(1000:Nat))∧(q1g (lang,ws)∧q0t c∧q3y
  book∧text.length≤(1000:Nat))∧bif !(Hea.q0n { lang:=lang,ws:=ws,c:=c } book text).1==(Hea.q0n { lang:=lang,ws:=ws,c:=c } (List.take p (List.reverse book))
  text).1 then false=true else bif !(Hea.q0n { lang:=lang,ws:=ws,c:=c } book text).2.1==(Hea.q0n { lang:=lang,ws:=ws,c:=c } (List.take p (List.reverse book)) text).2.1
  then false=true else bif (Hea.q0n { lang:=lang,ws:=ws,c:=c } book text).2.2 != (Hea.q0n { lang:=lang,ws:=ws,c:=c } (List.take p (List.reverse book)) text).2.2 then
  false=true else bif (Hea.q0n { lang:=lang,ws:=ws,c:=c } book text).2.2==(1:Int) then ((Hea.q2l { lang:=lang,ws:=ws,c:=c } book pt text).2.2==(1:Int))=true
  else True∧bif !Cod.onB pt then ((Hea.q2l { lang:=lang,ws:=ws,c:=c } book pt text).2.2==(1:Int))=true else List.length book≤(1000:Nat)∧(q1g (lang,ws)∧q0t c ∧
  q3y (List.filter (Hea.q00 pt) book)∧text.length≤(1000:Nat))∧bif (Hea.q2l { lang:=lang,ws:=ws,c:=c } book pt text).1==(Hea.q0n { lang:=lang,ws:=ws,c:=c }
  (List.filter (Hea.q00 pt) book) text).1 then bif (Hea.q2l { lang:=lang,ws:=ws,c:=c } book pt text).2.1==(Hea.q0n { lang:=lang,ws:=ws,c:=c } (List.filter (Hea.q00
  pt) book) text).2.1 then ((Hea.q2l { lang:=lang,ws:=ws,c:=c } book pt text).2.2==(Hea.q0n { lang:=lang,ws:=ws,c:=c } (List.filter (Hea.q00 pt) book) text).2.2)=true
  else false=true else false=true
  := by
 simp only [true_and,and_true]
 refine bifP (fun _=>trivial) fun hb=>?_
 have hf:fewH (lang,ws) c book text=true:=by simpa using hb
 obtain ⟨hW,hC,hB,hT,hl8⟩:=fewH_out hf
 refine ⟨⟨by omega,by omega⟩,⟨0,Nat.zero_le _,by omega,rfl⟩,?_⟩
 intro k hk
 refine bifP (fun hb=>?_) fun hb=>?_
 ·have hlt:k<book.length:=by have:=of_decide_eq_true hb; omega
  have hti:((book.length:Int)-1-(k:Int)).toNat=book.length-1-k:=by omega
  rw [hti]
  refine ⟨⟨by omega,by omega⟩,by rw [List.length_take,List.length_reverse,List.length_singleton]; omega,⟨by omega,by omega⟩,k+1,hlt,by omega,by push_cast; omega,?_⟩
  rw [Snd.q1s book.reverse Cod.noG k (by rw [List.length_reverse]; exact hlt)]
  congr 2
  rw [List.getD_eq_getElem?_getD,List.getD_eq_getElem?_getD,List.getElem?_reverse hlt]
 ·have hle:book.length≤k:=by have:=of_decide_eq_false hb; omega
  rw [List.take_of_length_le (by rw [List.length_reverse]; exact hle),Hea.hear_reverse]
  have hBr:q3y book.reverse:=⟨by rw [List.length_reverse]; exact hB.1,fun g hg=>hB.2 g (List.mem_reverse.1 hg)⟩
  have hBf:q3y (book.filter (Hea.q00 pt)):=⟨Nat.le_trans (List.length_filter_le _ _) hB.1,fun g hg=>hB.2 g (List.mem_filter.1 hg).1⟩
  refine ⟨⟨hW,hC,hB,by omega⟩,⟨hW,hC,hBr,by omega⟩,⟨hW,hC,hB,by omega⟩,?_⟩
  simp only [beq_self_eq_true,bne_self_eq_false,Bool.not_true,cond_false]
  refine bifP (fun he=>?_) fun he=>bifP (fun hon=>?_) fun hon=>?_
  ·have he:=eq_of_beq he
   have hp:=(Hea.hear_bad (e:=⟨lang,ws,c⟩) (book:=book) (text:=text) (by rw [he]; decide)).2.2.1 he
   unfold Hea.q2l
   rw [hp]; rfl
  ·unfold Hea.q2l
   rw [show Cod.onB pt=false by simpa using hon,Bool.and_false]; rfl
  ·have hon:Cod.onB pt=true:=by simpa using hon
   have hp:Cod.Ear.proper ⟨lang,ws,c⟩ book=true:=by
    cases hp:Cod.Ear.proper ⟨lang,ws,c⟩ book
    ·exfalso
     unfold Hea.q0n at he
     rw [hp] at he
     simp at he
    ·rfl
   refine ⟨by omega,⟨hW,hC,hBf,by omega⟩,?_⟩
   rw [Hea.here_hear hp pt text hon]
   simp only [beq_self_eq_true,cond_true]
end Go.Proofs.YtfecgebhoondjaaGreatDoor
set_option linter.unusedVariables false
namespace Go.Proofs.YtfecgebhoondjaaGreatDoor
open Go.RowKit
open R
set_option maxRecDepth 100000 in
theorem on07_holds:cOn07.Holds Tryz.prog:=by
 refine q2e (cons:=[]) Tryz.func56 (by kernel_rfl) (by kernel_rfl) mixed (by kernel_rfl) all_nil (fun _=>[]) fun p hp=>?_
 refine cast ?_ (on07_vc p hp)
 kernel_rfl
set_option maxRecDepth 100000 in
theorem dist07_holds:cDist07.Holds Tryz.prog:=by
 refine q2e (cons:=[cOn07]) Tryz.func60 (by kernel_rfl) (by kernel_rfl) mixed (by kernel_rfl) (all_cons on07_holds all_nil) (fun _=>[]) fun p hp=>?_
 obtain ⟨p,q⟩:=p
 refine cast ?_ (dist07_vc p q hp)
 kernel_rfl
set_option maxRecDepth 100000 in
theorem near42_holds:cNear42.Holds Tryz.prog:=by
 refine q2e (cons:=[cDist07]) Tryz.func27 (by kernel_rfl) (by kernel_rfl) mixed (by kernel_rfl) (all_cons dist07_holds all_nil) (fun p=>anNear42 p.1 p.2) fun p hp=>?_
 obtain ⟨book,pt⟩:=p
 refine cast ?_ (near42_vc book pt hp)
 kernel_rfl
set_option maxRecDepth 100000 in
theorem few42_holds:cFew42.Holds Tryz.prog:=by
 refine q2e (cons:=[cFew41]) Tryz.func17 (by kernel_rfl) (by kernel_rfl) mixed (by kernel_rfl) (all_cons few41_holds all_nil) (fun _=>[]) fun p hp=>?_
 obtain ⟨⟨lang,ws⟩,c,book,text⟩:=p
 refine cast ?_ (few42_vc lang ws c book text hp)
 kernel_rfl
set_option maxRecDepth 100000 in
theorem head42_holds:cHead42.Holds Tryz.prog:=by
 refine q2e (cons:=[cHear.lent,cHere.lent]) Tryz.func16 (by kernel_rfl) (by kernel_rfl) mixed (by kernel_rfl) (all_cons (show cHear.lent.Holds Tryz.prog from qia) (all_cons (show cHere.lent.Holds Tryz.prog from qip) all_nil)) (fun _=>anHead42) fun p hp=>?_
 refine cast ?_ (head42_vc hp)
 kernel_rfl
set_option maxRecDepth 100000 in
theorem horder_holds:cHOrder.Holds Tryz.prog:=by
 refine q2e (cons:=consHOrder) Tryz.func5 (by kernel_rfl) (by kernel_rfl) mixed (by kernel_rfl) (all_cons head42_holds (all_cons few42_holds (all_cons qia (all_cons qip (all_cons qdp (all_cons near42_holds all_nil)))))) (fun p=>anHOrder p.2.2.1) fun p hp=>?_
 obtain ⟨⟨lang,ws⟩,c,book,pt,text⟩:=p
 refine cast ?_ (horder_vc lang ws c book pt text hp)
 kernel_rfl
end Go.Proofs.YtfecgebhoondjaaGreatDoor
set_option linter.unusedVariables false
namespace Go.Proofs.YtfecgebhoondjaaGreatDoor
open Go.RowKit Go.ChangeShapes Go.WideShapes
namespace R
def fldK (T:TypeId→Option Kds) (P:Program):List Field→Nat→Option Kds
 | [],_=>none
 | [f],o=>match T f.type with
  | some fs=>bif f.offset.beq o&&(P.cellsOf f.type).beq fs.size then some fs else none
  | none=>none
 | f::g::r,o=>match T f.type,fldK T P (g::r) (o+P.cellsOf f.type) with
  | some fs,some gs=>bif f.offset.beq o&&(P.cellsOf f.type).beq fs.size then some (fs.app gs) else none
  | _,_=>none
def repK (fs:Kds):Nat→Option Kds
 | 0=>none
 | 1=>some fs
 | n+2=>match repK fs (n+1) with
  | some gs=>some (fs.app gs)
  | none=>none
def tyK (P:Program):Nat→TypeId→Option Kds
 | 0,_=>none
 | n+1,t=>match P.underlying t with
  | some (.int k)=>some (.one (.int k))
  | some .bool=>some (.one .bool)
  | some .string=>some (.one .str)
  | some (.slice e)=>match tyK P n e with
   | some fs=>bif (P.cellsOf e).beq fs.size then some (.one (.sl fs)) else none
   | none=>none
  | some (.struct F)=>match fldK (tyK P n) P F.toList 0 with
   | some fs=>bif (P.cellsOf t).beq fs.size then some fs else none
   | none=>none
  | some (.array len e)=>match tyK P n e with
   | some fs=>bif (P.cellsOf e).beq fs.size then (match repK fs len with
    | some gs=>bif (P.cellsOf t).beq gs.size then some gs else none
    | none=>none) else none
   | none=>none
  | _=>none
def ckT (P:Program) (t:TypeId):Option CK :=
 match P.underlying t with
 | some (.struct _)=>(tyK P 20 t).map .agg
 | some (.array _ _)=>none
 | _=>match tyK P 20 t with
  | some (.one k)=>some (.one k)
  | _=>none
def appPay:(fs:Kds)→{gs:Kds}→fs.Pay→gs.Pay→(fs.app gs).Pay
 | .one _,_,p,q=>(p,q)
 | .cons _ ks,_,p,q=>(p.1,appPay ks p.2 q)
theorem qhl:∀ (fs gs:Kds),(fs.app gs).size=fs.size+gs.size
 | .one k,gs=>by show gs.size+1=1+gs.size; omega
 | .cons k ks,gs=>by show (ks.app gs).size+1=ks.size+1+gs.size; rw [qhl]; omega
theorem app_big:∀ (fs:Kds) {gs:Kds} (p:fs.Pay) (q:gs.Pay),fs.Big p→gs.Big q→(fs.app gs).Big (appPay fs p q)
 | .one k,gs,p,q,hp,hq=>⟨hp,hq⟩
 | .cons k ks,gs,p,q,hp,hq=>⟨hp.1,app_big ks p.2 q hp.2 hq⟩
section
variable {H:Type} {enc:TypeId×Value→H} {P:Program} {w:World} {base:Nat} {spare:Nat→Bool} {held:Bool}
theorem qf9:∀ (fs:Kds) {gs:Kds} (p:fs.Pay) (q:gs.Pay) (cs ds:List Value),q2c w fs p cs→q2c w gs q ds→q2c w (fs.app gs) (appPay fs p q) (cs++ds)
 | .one k,gs,p,q,cs,ds,hp,hq=>by
  obtain ⟨v,rfl,hv⟩:=hp
  exact ⟨v,ds,rfl,hv,hq⟩
 | .cons k ks,gs,p,q,cs,ds,hp,hq=>by
  obtain ⟨v,r,rfl,hv,hr⟩:=hp
  exact ⟨v,r++ds,rfl,hv,qf9 ks p.2 q r ds hr hq⟩
def Opens (enc:TypeId×Value→H) (P:Program) (w:World) (base:Nat) (spare:Nat→Bool) (held:Bool) (t:TypeId) (fs:Kds):Prop :=
 ∀ (fuel:Nat) (cs:List Value) (x:DataW H×List MemPlace),DataW.trod enc P w base spare held fuel t cs=some x→∃ p,q2c w fs p cs∧fs.Big p
theorem fld_opens {T:TypeId→Option Kds} (hT:∀ t fs,T t=some fs→Opens enc P w base spare held t fs):∀ (l:List Field) (o:Nat) (fs:Kds),fldK T P l o=some fs→∀ (n:Nat) (cs:List Value),cs.length=o+fs.size →
  (∀ (i:Nat) (f:Field),l[i]? = some f→∃ y,DataW.trod enc P w base spare held n f.type ((cs.drop f.offset).take (P.cellsOf f.type))=some y)→∃ p,q2c w fs p (cs.drop o)∧fs.Big p
 | [],o,fs,h,n,cs,hc,hx=>by cases h
 | [f],o,fs,h,n,cs,hc,hx=>by
  have h:(match T f.type with
   | some fs=>bif f.offset.beq o&&(P.cellsOf f.type).beq fs.size then some fs else none
   | none=>none)=some fs:=h
  split at h
  ·rename_i gs hg
   cases hb:(f.offset.beq o&&(P.cellsOf f.type).beq gs.size)
   ·rw [hb] at h; cases h
   ·rw [hb] at h
    injection h with h; subst h
    rw [Bool.and_eq_true] at hb
    have h1:=Nat.eq_of_beq_eq_true hb.1
    have h2:=Nat.eq_of_beq_eq_true hb.2
    obtain ⟨y,hy⟩:=hx 0 f rfl
    rw [h1,h2,List.take_of_length_le (by rw [List.length_drop]; omega)] at hy
    exact hT _ _ hg n _ y hy
  ·cases h
 | f::g::r,o,fs,h,n,cs,hc,hx=>by
  have h:(match T f.type,fldK T P (g::r) (o+P.cellsOf f.type) with
   | some fs,some gs=>bif f.offset.beq o&&(P.cellsOf f.type).beq fs.size then some (fs.app gs) else none
   | _,_=>none)=some fs:=h
  split at h
  ·rename_i k1 k2 hg hr
   cases hb:(f.offset.beq o&&(P.cellsOf f.type).beq k1.size)
   ·rw [hb] at h; cases h
   ·rw [hb] at h
    injection h with h; subst h
    rw [Bool.and_eq_true] at hb
    have h1:=Nat.eq_of_beq_eq_true hb.1
    have h2:=Nat.eq_of_beq_eq_true hb.2
    rw [qhl] at hc
    obtain ⟨y,hy⟩:=hx 0 f rfl
    rw [h1,h2] at hy
    obtain ⟨p,hp,hbp⟩:=hT _ _ hg n _ y hy
    obtain ⟨q,hq,hbq⟩:=fld_opens hT (g::r) _ k2 hr n cs (by omega) fun i f' hi=>hx (i+1) f' hi
    refine ⟨appPay k1 p q,?_,app_big k1 p q hbp hbq⟩
    have:=qf9 k1 p q _ _ hp hq
    rw [h2,← List.drop_drop,List.take_append_drop] at this
    exact this
  ·cases h
theorem rep_opens {e:TypeId} {fs:Kds} (hT:Opens enc P w base spare held e fs) (hce:P.cellsOf e=fs.size):∀ (len:Nat) (gs:Kds),repK fs len=some gs→∀ (n i0:Nat) (cs:List Value),cs.length=i0*fs.size+gs.size →
  (∀ (i:Nat),i<len→∃ y,DataW.trod enc P w base spare held n e ((cs.drop ((i0+i)*P.cellsOf e)).take (P.cellsOf e))=some y)→∃ p,q2c w gs p (cs.drop (i0*fs.size))∧gs.Big p
 | 0,gs,h,n,i0,cs,hc,hx=>by cases h
 | 1,gs,h,n,i0,cs,hc,hx=>by
  have h:some fs=some gs:=h
  injection h with h; subst h
  obtain ⟨y,hy⟩:=hx 0 Nat.one_pos
  rw [hce,Nat.add_zero,List.take_of_length_le (by rw [List.length_drop]; omega)] at hy
  exact hT n _ y hy
 | len+2,gs,h,n,i0,cs,hc,hx=>by
  have h:(match repK fs (len+1) with
   | some gs=>some (fs.app gs)
   | none=>none)=some gs:=h
  split at h
  ·rename_i k2 hr
   injection h with h; subst h
   rw [qhl] at hc
   obtain ⟨y,hy⟩:=hx 0 (by omega)
   rw [hce,Nat.add_zero] at hy
   obtain ⟨p,hp,hbp⟩:=hT n _ y hy
   obtain ⟨q,hq,hbq⟩:=rep_opens hT hce (len+1) k2 hr n (i0+1) cs (by rw [Nat.succ_mul]; omega) fun i hi=>by
    have:=hx (i+1) (by omega)
    rwa [show i0+1+i=i0+(i+1) by omega]
   refine ⟨appPay fs p q,?_,app_big fs p q hbp hbq⟩
   have:=qf9 fs p q _ _ hp hq
   rw [Nat.succ_mul,← List.drop_drop,List.take_append_drop] at this
   exact this
  ·cases h
theorem qaz:∀ (n:Nat) (t:TypeId) (fs:Kds),tyK P n t=some fs→Opens enc P w base spare held t fs
 | 0,t,fs,h=>by cases h
 | n+1,t,fs,h=>by
  intro fuel cs x hx
  unfold tyK at h
  split at h
  ·rename_i k hu
   injection h with h; subst h
   obtain ⟨m,h1,h2,h3⟩:=DataW.trod_int hu hx
   exact ⟨m,⟨_,h1,rfl⟩,by first | exact h3 | exact h3.1 | exact h3.2⟩
  ·rename_i hu
   injection h with h; subst h
   obtain ⟨b,h1,_⟩:=DataW.trod_bool hu hx
   exact ⟨b,⟨_,h1,rfl⟩,trivial⟩
  ·rename_i hu
   injection h with h; subst h
   obtain ⟨s,h1,_,h3⟩:=DataW.trod_string hu hx
   exact ⟨s.data.toList,⟨_,h1,rfl⟩,h3⟩
  ·rename_i e hu
   split at h
   ·rename_i gs hg
    cases hb:(P.cellsOf e).beq gs.size
    ·rw [hb] at h; cases h
    ·rw [hb] at h
     injection h with h; subst h
     have hce:=Nat.eq_of_beq_eq_true hb
     have hO:=qaz n e gs hg
     rcases Go.Deep.open_slice hu hx with ⟨rfl,_⟩ | ⟨a,len,cap,m,k,D,Pl,rfl,hbb,hlc,hm,hmm,_,hxx⟩
     ·exact ⟨([]:List gs.Pay),⟨_,rfl,none,0,rfl,Nat.le_refl _,fun h=>absurd h (Nat.lt_irrefl _)⟩,Nat.zero_le _,fun x h=>by cases h⟩
     ·have hlm:len≤m:=by rw [hmm]; split <;> omega
      have each:∀ i,i<len→∃ p:gs.Pay,∀ g o,a=⟨g,o,none⟩→gs.Rep w (Here w) p g (o+i*gs.size)∧gs.Big p:=fun i hi=>by
       obtain ⟨cs',h1,h2⟩:=hxx i (by omega)
       obtain ⟨p,hp,hbig⟩:=hO k cs' _ h2
       refine ⟨p,fun g o ha=>⟨q2c.row gs p cs' g _ hp fun j hj=>?_,hbig⟩⟩
       subst ha
       obtain ⟨_,hl,hc⟩:=World.cells?_some h1
       have:=hc j (by omega)
       rw [add_pl',add_pl',hce] at this
       exact this
      obtain ⟨f,hf⟩:∃ f:Nat→gs.Pay,∀ i,i<len→∀ g o,a=⟨g,o,none⟩→gs.Rep w (Here w) (f i) g (o+i*gs.size)∧gs.Big (f i):=by
       haveI:Inhabited gs.Pay:=⟨gs.dflt⟩
       exact Go.Deep.choose_lt each
      have hlen:((List.range len).map f).length=len:=by simp
      have hpl:0<len→∃ g o,a=⟨g,o,none⟩∧g<w.heap.size:=fun hpos=>by
       obtain ⟨cs',h1,_⟩:=hxx 0 (by omega)
       obtain ⟨_,hl,hc⟩:=World.cells?_some h1
       have:=hc 0 (by rw [hce]; exact gs.q6v)
       rw [Nat.zero_mul] at this
       have hlt:0<cs'.length:=by rw [hl,hce]; exact gs.q6v
       rw [List.getElem?_eq_getElem hlt] at this
       have ha:a.add 0=a:=by unfold Addr.add; simp
       rw [ha] at this
       exact cell_plain' this
      refine ⟨((List.range len).map f:List gs.Pay),⟨_,rfl,some a,cap,by rw [hlen],by rw [hlen]; exact hlc,fun hpos=>?_⟩,?_,?_⟩
      ·rw [hlen] at hpos
       obtain ⟨g,o,rfl,hg⟩:=hpl hpos
       refine ⟨g,o,rfl,hg,hg,fun i x hi=>?_⟩
       have hil:i<len:=by
        rcases Nat.lt_or_ge i len with h' | h'
        ·exact h'
        ·rw [List.getElem?_eq_none (by rw [hlen]; exact h')] at hi; cases hi
       rw [List.getElem?_map,List.getElem?_range hil] at hi
       injection hi with hi
       subst hi
       exact (hf i hil g o rfl).1
      ·rw [hlen]; unfold maxLen at hm; omega
      ·intro x hx'
       obtain ⟨i,hi,rfl⟩:=List.mem_map.1 hx'
       have hi:=List.mem_range.1 hi
       obtain ⟨g,o,ha,hg⟩:=hpl (by omega)
       exact (hf i hi g o ha).2
   ·cases h
  ·rename_i F hu
   split at h
   ·rename_i gs hg
    cases hb:(P.cellsOf t).beq gs.size
    ·rw [hb] at h; cases h
    ·rw [hb] at h
     injection h with h; subst h
     have hct:=Nat.eq_of_beq_eq_true hb
     obtain ⟨xs,m,rfl,_,hl,hxl,hxx⟩:=DataW.trod_struct hu hx
     have:=fld_opens (qaz n) F.toList 0 gs hg m cs (by omega) fun i f hi=>by
      have h1:F[i]? = some f:=by rw [← Array.getElem?_toList]; exact hi
      have h2:=hxx i f h1
      have hil:i<xs.length:=by
       rw [hxl]
       exact (Array.getElem?_eq_some_iff.1 h1).1
      rw [List.getElem?_eq_getElem hil] at h2
      exact ⟨_,h2⟩
     rwa [List.drop_zero] at this
   ·cases h
  ·rename_i len e hu
   split at h
   ·rename_i fs1 hg
    cases hb1:(P.cellsOf e).beq fs1.size
    ·rw [hb1] at h; cases h
    ·rw [hb1] at h
     have hce:=Nat.eq_of_beq_eq_true hb1
     dsimp only [cond_true] at h
     split at h
     ·rename_i gs hr
      cases hb:(P.cellsOf t).beq gs.size
      ·rw [hb] at h; cases h
      ·rw [hb] at h
       injection h with h; subst h
       have hct:=Nat.eq_of_beq_eq_true hb
       obtain ⟨xs,m,rfl,_,hl,hxl,hxx⟩:=DataW.trod_array hu hx
       have:=rep_opens (qaz n e fs1 hg) hce len gs hr m 0 cs (by omega) fun i hi=>by
        have h2:=hxx i hi
        rw [List.getElem?_eq_getElem (by omega)] at h2
        rw [Nat.zero_add]
        exact ⟨_,h2⟩
       rwa [Nat.zero_mul,List.drop_zero] at this
     ·cases h
   ·cases h
  ·cases h
theorem qaw {r:Reach} {b0:Nat} (x:CK) (t:TypeId) (ht:ckT P t=some x) {v:Value} {d:DataW H} {ps:List MemPlace} (hv:Value.okWide P w r b0 t v) (h:DataW.Trod enc P w base spare held t v d ps) :
  ∃ p:x.Pay,(x.comp p).Rep (Cx.of (Here w)) w v∧x.Big p:=by
 obtain ⟨fuel,hf⟩:=h
 unfold ckT at ht
 split at ht
 ·rename_i F hu
  cases hk:tyK P 20 t with
  | none=>rw [hk] at ht; cases ht
  | some ks =>
   rw [hk] at ht
   injection ht with ht; subst ht
   obtain ⟨cs,rfl,hsz⟩:=okWide_struct hu hv
   obtain ⟨p,hp,hb⟩:=qaz 20 t ks hk fuel _ _ hf
   obtain ⟨h1,h2,h3⟩:=q2c.reps ks p _ hp
   refine ⟨p,⟨cs,rfl,?_,fun i c hi=>?_,fun i u hi=>?_⟩,hb⟩
   ·rw [← h3]; simp [Value.cells]
   ·obtain ⟨u,hu,hr⟩:=h1 i c hi
    exact ⟨u,by simpa [Value.cells] using hu,hr⟩
   ·exact h2 i u (by simpa [Value.cells] using hi)
 ·cases ht
 ·rename_i hns hna
  split at ht
  ·rename_i k hk
   injection ht with ht; subst ht
   have hone:v.cells.toList=[v]:=by
    unfold tyK at hk
    split at hk
    ·rename_i hu; obtain ⟨n,rfl⟩:=okWide_int hu hv; rfl
    ·rename_i hu; obtain ⟨n,rfl⟩:=okWide_bool hu hv; rfl
    ·rename_i hu; obtain ⟨n,rfl⟩:=okWide_string hu hv; rfl
    ·rename_i hu; obtain ⟨a,n,c,rfl⟩:=okWide_slice hu hv; rfl
    ·rename_i hu; exact absurd hu (hns _)
    ·rename_i hu; exact absurd hu (hna _ _)
    ·cases hk
   obtain ⟨p,⟨v',h1,h2⟩,h3⟩:=qaz 20 t (.one k) hk fuel _ _ hf
   rw [hone] at h1
   injection h1 with h1
   subst h1
   exact ⟨p,h2,h3⟩
  ·cases ht
end
end R
end Go.Proofs.YtfecgebhoondjaaGreatDoor

/-
  Several texts in one: CoGC, CoP, CoQ, CoR, CoS, CoTL, CoW, CoX, CoZA, CoY, CoZB, CoT, CoZ, CoZC, CoZD, CoZE.
-/
import Derived.Test.YtfecgebhoondjaaGreatDoorPR
import Derived.Test.YtfecgebhoondjaaGreatDoorPQ
import Derived.Test.YtfecgebhoondjaaGreatDoorPB
import Derived.Deep.LoopGhost
import Derived.Lib.OwnBridge
import Derived.Shelf.SlSortCmp.NoneTotal
import Derived.Deep.QuietTactic
set_option linter.unusedVariables false
namespace Go.Proofs.YtfecgebhoondjaaGreatDoor
open Go.RowKit
open R
theorem kitGi_ok:kitGi.Ok Tryz.prog where
 cons:=all_cons qlq (all_cons qhi (all_cons q4u (all_cons (show cKey.lent.Holds Tryz.prog from key_holds) (all_cons q7z (all_cons q9m (all_cons qbt (all_cons (show cNearG.lent.Holds Tryz.prog from qju) all_nil)))))))
 ns:=all_cons qdx all_nil
 os:=all_cons qd0 all_nil
 fcs:=all_nil
 rcs:=all_nil
 inls:=q0m.more Tryz.func64 (by kernel_rfl) (by kernel_rfl) (q0m.more Tryz.func57 (by kernel_rfl) (by kernel_rfl) (q0m.more Tryz.func76 (by kernel_rfl) (by kernel_rfl) (q0m.more Tryz.func109 (by kernel_rfl) (by kernel_rfl)
  (q0m.more Tryz.func66 (by kernel_rfl) (by kernel_rfl) (q0m.more Tryz.func117 (by kernel_rfl) (by kernel_rfl) (q0m.more Tryz.func118 (by kernel_rfl) (by kernel_rfl) (q0m.more Tryz.func120 (by kernel_rfl) (by kernel_rfl)
  (q0m.more Tryz.func127 (by kernel_rfl) (by kernel_rfl) (q0m.more Tryz.func74 (by kernel_rfl) (by kernel_rfl) (q0m.more Tryz.func108 (by kernel_rfl) (by kernel_rfl)
  (q0m.more Tryz.func75 (by kernel_rfl) (by kernel_rfl) (q0m.more Tryz.func77 (by kernel_rfl) (by kernel_rfl) q0m.nil))))))))))))
set_option maxRecDepth 100000000 in
theorem qeu:cGive.Holds Tryz.prog:=by
 refine holdsX (T:=kitGi) (fun p=>anGi ⟨p.1.1,p.1.2,p.2.1⟩ p.2.2.1 p.2.2.2.1) Tryz.func35 (by kernel_rfl) (by kernel_rfl) mixed (by kernel_rfl) kitGi_ok (fun p=>anGive ⟨p.1.1,p.1.2,p.2.1⟩ p.2.2.1 p.2.2.2.1 p.2.2.2.2.toNat) fun p hp=>?_
 obtain ⟨⟨lang,ws⟩,c,book,y,size⟩:=p
 refine cast ?_ (give_vc ⟨lang,ws,c⟩ book y size hp)
 kernel_rfl
end Go.Proofs.YtfecgebhoondjaaGreatDoor
set_option linter.unusedVariables false
namespace Go.Proofs.YtfecgebhoondjaaGreatDoor
open Go.RowKit
open R
abbrev kIs:Kds:=.one (.sl (.one (.int .i64)))
abbrev qid:CK:=.one (.sl kIs)
def q5l (l:List (List Int)):Prop:=l.length≤1000000000000000∧∀ x∈l,x.length≤1000000000000000
def cEq:Con:=.of 43 [q2i,q2i] [q35] (fun p=>List.length p.1≤1000000000000000) (fun p=>p.1==p.2)
def anEq (a b:List Int):List (Nat×Ann) :=
 [ann 0 Nat [0,1] (fun k=>[(5,R.int .i64 k)]) (fun k=>k≤a.length∧a.take k=b.take k) (fun k=>a.length-k)]
def cLess:Con:=.of 44 [q2i,q2i] [q35] (fun p=>List.length p.1≤1000000000000000) (fun p=>Cod.q5m p.1 p.2)
def anLess (a b:List Int):List (Nat×Ann) :=
 [ann 0 Nat [0,1] (fun k=>[(5,R.int .i64 k)]) (fun k=>k≤a.length∧k≤b.length∧a.take k=b.take k) (fun k=>a.length-k)]
def cSameL:Con:=.of 39 [qid,qid] [q35] (fun p=>q5l p.1) (fun p=>p.1==p.2)
def anSameL (a b:List (List Int)):List (Nat×Ann) :=
 [ann 0 Nat [0,1] (fun k=>[(5,R.int .i64 k)]) (fun k=>k≤a.length∧a.take k=b.take k) (fun k=>a.length-k)]
def cHas:Con:=.of 45 [qid,q2i] [q35] (fun p=>q5l p.1) (fun p=>List.any p.1 fun y=>y==p.2)
def anHas (l:List (List Int)) (x:List Int):List (Nat×Ann) :=
 [ann 0 Nat [0,1] (fun k=>[(5,R.int .i64 k)]) (fun k=>k≤l.length∧(l.take k).any (fun y=>y==x)=false) (fun k=>l.length-k)]
def cSame:Con:=.of 41 [q7f,q7f] [q35] (fun p=>List.length p.1.2.1≤1000000000000000) (fun p=>p.1==p.2)
def q2s (l:WlP) (c:CfP) (book:q0k) (most:Int):Bool:=q83 l&&(q7e c&&(decide (l.2.length≤8)&&(decide (c.length≤10)&&(decide ((book.length:Int)≤most)&&book.all fun g=>decide (g.2.1.length≤8)&&decide (g.1.length≤60)))))
def cFew41:Con:=.of 49 [ckWl,ckCf,q4j,q7g] [q35] (fun p=>p.2.2.2≤1000) (fun p=>q2s p.1 p.2.1 p.2.2.1 p.2.2.2)
def anFew41 (book:q0k):List (Nat×Ann) :=
 [ann 0 Nat [2] (fun k=>[(9,R.int .i64 k)]) (fun k=>k≤book.length∧(book.take k).all (fun g=>decide (g.2.1.length≤8)&&decide (g.1.length≤60))=true) (fun k=>book.length-k)]
end Go.Proofs.YtfecgebhoondjaaGreatDoor
set_option linter.unusedVariables false
namespace Go.Proofs.YtfecgebhoondjaaGreatDoor
open Go.RowKit
open R
theorem qlb (x y:List Int):∀ p:List Int,Cod.cmpL (p++x) (p++y)=Cod.cmpL x y
 | []=>rfl
 | a::p=>by rw [List.cons_append,List.cons_append,Cod.cmpL,if_neg (Int.lt_irrefl a),if_neg (Int.lt_irrefl a),qlb x y p]
theorem qki {a b:List Int} {k:Nat} (h:a.take k=b.take k):Cod.cmpL a b=Cod.cmpL (a.drop k) (b.drop k):=by
 conv=>lhs; rw [← List.take_append_drop k a,← List.take_append_drop k b,h]
 exact qlb _ _ _
theorem q61 (a:List Int) {k:Nat} (h:k<a.length):a.drop k=a.getD k 0::a.drop (k+1):=by
 rw [List.drop_eq_getElem_cons h,List.getD_eq_getElem?_getD,List.getElem?_eq_getElem h]; rfl
set_option maxRecDepth 100000 in
theorem eq_vc (a b:List Int) (h:cEq.pre (a,b)) :
  bif (a.length:Int) != (b.length:Int) then false=(a==b) else (∃ (p':Nat),(p'≤a.length∧List.take p' a=List.take p' b)∧((0:Int)=(p':Int)∧a=a∧b=b∧True) ∧
  True∧True∧True∧True∧True∧True∧True∧True∧True)∧∀ (p:Nat),p≤a.length∧List.take p a=List.take p b→bif decide ((p:Int)<(a.length:Int)) then ((0:Int)≤(↑p
  : Int)∧(p:Int)<(a.length:Int))∧((0:Int)≤(p:Int)∧(p:Int)<(b.length:Int))∧bif a.getD (p:Int).toNat (0:Int) != b.getD (p:Int).toNat (0:Int) then false =
  (a==b) else ((-9223372036854775808:Int)≤(p:Int)+(1:Int)∧(p:Int)+(1:Int)≤(9223372036854775807:Int))∧∃ (p':Nat),(p'≤a.length∧List.take p' a=List.take p' b)
  ∧ a.length-p'<a.length-p∧((p:Int)+(1:Int)=(p':Int)∧a=a∧b=b∧True)∧True∧True∧True∧True∧True∧True∧True∧True∧True else true=(a==b)
  := by
 have h:a.length≤1000000000000000:=h
 simp only [true_and,and_true,eq_self]
 refine bifP (fun hb=>?_) fun hb=>?_
 ·have hl:a.length≠b.length:=by have:=bne_iff_ne.1 hb; omega
  symm
  rw [beq_eq_false_iff_ne]
  intro e; exact hl (by rw [e])
 have hl:a.length=b.length:=by have:=bne_eq_false_iff_eq.1 hb; omega
 refine ⟨⟨0,⟨Nat.zero_le _,rfl⟩,rfl⟩,?_⟩
 rintro p ⟨hp,ht⟩
 have hti:((p:Int).toNat)=p:=rfl
 simp only [hti]
 refine bifP (fun hb=>?_) fun hb=>?_
 ·have hlt:p<a.length:=by have:=of_decide_eq_true hb; omega
  refine ⟨⟨by omega,by omega⟩,⟨by omega,by omega⟩,bifP (fun hb=>?_) fun h1=>⟨⟨by omega,by omega⟩,p+1,⟨by omega,?_⟩,by omega,by omega⟩⟩
  ·symm
   rw [beq_eq_false_iff_ne]
   intro e
   rw [e] at hb
   exact (bne_iff_ne.1 hb) rfl
  ·rw [Snd.q1n a 0 p hlt,Snd.q1n b 0 p (by omega),ht,bne_eq_false_iff_eq.1 h1]
 ·have hle:a.length≤p:=by have:=of_decide_eq_false hb; omega
  rw [List.take_of_length_le hle,List.take_of_length_le (by omega)] at ht
  rw [ht,beq_self_eq_true]
set_option maxRecDepth 100000 in
theorem less_vc (a b:List Int) (h:cLess.pre (a,b)) :
  (∃ (p':Nat),(p'≤a.length∧p'≤b.length∧List.take p' a=List.take p' b)∧((0:Int)=(p':Int)∧a=a∧b=b∧True)∧True∧True∧True∧True∧True∧True∧True∧True ∧
  True)∧∀ (p:Nat),p≤a.length∧p≤b.length∧List.take p a=List.take p b→bif decide ((p:Int)<(a.length:Int)) then bif decide ((p:Int)<(b.length:Int)) then ((0 :
  Int)≤(p:Int)∧(p:Int)<(a.length:Int))∧((0:Int)≤(p:Int)∧(p:Int)<(b.length:Int))∧bif a.getD (p:Int).toNat (0:Int) != b.getD (p:Int).toNat (0:Int)
  then ((0:Int)≤(p:Int)∧(p:Int)<(a.length:Int))∧((0:Int)≤(p:Int)∧(p:Int)<(b.length:Int))∧decide (a.getD (p:Int).toNat (0:Int)<b.getD (↑p :
  Int).toNat (0:Int))=Cod.q5m a b else ((-9223372036854775808:Int)≤(p:Int)+(1:Int)∧(p:Int)+(1:Int)≤(9223372036854775807:Int))∧∃ (p':Nat),(p'≤a.length∧p'
  ≤ b.length∧List.take p' a=List.take p' b)∧a.length-p'<a.length-p∧((p:Int)+(1:Int)=(p':Int)∧a=a∧b=b∧True)∧True∧True∧True∧True∧True∧True∧True
  ∧ True∧True else decide ((a.length:Int)<(b.length:Int))=Cod.q5m a b else decide ((a.length:Int)<(b.length:Int))=Cod.q5m a b
  := by
 have h:a.length≤1000000000000000:=h
 simp only [true_and,and_true,eq_self]
 refine ⟨⟨0,⟨Nat.zero_le _,Nat.zero_le _,rfl⟩,rfl⟩,?_⟩
 rintro p ⟨hp,hp2,ht⟩
 have hti:((p:Int).toNat)=p:=rfl
 simp only [hti]
 have hc:=qki ht
 refine bifP (fun hb=>bifP (fun hb2=>?_) fun hb2=>?_) fun hb=>?_
 ·have hlt:p<a.length:=by have:=of_decide_eq_true hb; omega
  have hlt2:p<b.length:=by have:=of_decide_eq_true hb2; omega
  refine ⟨⟨by omega,by omega⟩,⟨by omega,by omega⟩,bifP (fun hne=>⟨⟨by omega,by omega⟩,⟨by omega,by omega⟩,?_⟩) fun h1=>⟨⟨by omega,by omega⟩,p+1,⟨by omega,by omega,?_⟩,by omega,by omega⟩⟩
  ·have hne:=bne_iff_ne.1 hne
   unfold Cod.q5m
   rw [hc,q61 a hlt,q61 b hlt2,Cod.cmpL]
   by_cases hu:a.getD p 0<b.getD p 0
   ·rw [if_pos hu,decide_eq_true hu]; rfl
   ·rw [if_neg hu,if_pos (by omega),decide_eq_false hu]; rfl
  ·rw [Snd.q1n a 0 p hlt,Snd.q1n b 0 p hlt2,ht,bne_eq_false_iff_eq.1 h1]
 ·have hlt:p<a.length:=by have:=of_decide_eq_true hb; omega
  have hle:b.length≤p:=by have:=of_decide_eq_false hb2; omega
  unfold Cod.q5m
  rw [hc,q61 a hlt,List.drop_eq_nil_of_le hle,Cod.cmpL,decide_eq_false (by omega)]; rfl
 ·have hle:a.length≤p:=by have:=of_decide_eq_false hb; omega
  unfold Cod.q5m
  rw [hc,List.drop_eq_nil_of_le hle]
  by_cases hlt2:p<b.length
  ·rw [q61 b hlt2,Cod.cmpL,decide_eq_true (by omega)]; rfl
  ·rw [List.drop_eq_nil_of_le (by omega),Cod.cmpL,decide_eq_false (by omega)]; rfl
set_option maxRecDepth 100000 in
theorem sameL_vc (a b:List (List Int)) (h:cSameL.pre (a,b)) :
  bif (a.length:Int) != (b.length:Int) then false=(a==b) else (∃ (p':Nat),(p'≤a.length∧List.take p' a=List.take p' b)∧((0:Int)=(p':Int)∧a=a∧b=b∧True) ∧
  True∧True∧True∧True∧True∧True∧True∧True∧True)∧∀ (p:Nat),p≤a.length∧List.take p a=List.take p b→bif decide ((p:Int)<(a.length:Int)) then ((0:Int)≤(↑p
  : Int)∧(p:Int)<(a.length:Int))∧((0:Int)≤(p:Int)∧(p:Int)<(b.length:Int))∧(a.getD (p:Int).toNat []).length≤(1000000000000000:Nat)∧bif !a.getD (↑p :
  Int).toNat []==b.getD (p:Int).toNat [] then false=(a==b) else ((-9223372036854775808:Int)≤(p:Int)+(1:Int)∧(p:Int)+(1:Int)≤(9223372036854775807:Int))∧∃ (p'
  : Nat),(p'≤a.length∧List.take p' a=List.take p' b)∧a.length-p'<a.length-p∧((p:Int)+(1:Int)=(p':Int)∧a=a∧b=b∧True)∧True∧True∧True∧True∧True ∧
  True∧True∧True∧True else true=(a==b)
  := by
 obtain ⟨h,hx⟩:=h
 have h:a.length≤1000000000000000:=h
 have hx:∀ x∈a,x.length≤1000000000000000:=hx
 simp only [true_and,and_true,eq_self]
 refine bifP (fun hb=>?_) fun hb=>?_
 ·have hl:a.length≠b.length:=by have:=bne_iff_ne.1 hb; omega
  symm
  rw [beq_eq_false_iff_ne]
  intro e; exact hl (by rw [e])
 have hl:a.length=b.length:=by have:=bne_eq_false_iff_eq.1 hb; omega
 refine ⟨⟨0,⟨Nat.zero_le _,rfl⟩,rfl⟩,?_⟩
 rintro p ⟨hp,ht⟩
 have hti:((p:Int).toNat)=p:=rfl
 simp only [hti]
 refine bifP (fun hb=>?_) fun hb=>?_
 ·have hlt:p<a.length:=by have:=of_decide_eq_true hb; omega
  refine ⟨⟨by omega,by omega⟩,⟨by omega,by omega⟩,hx _ (Snd.q11 a [] p hlt),bifP (fun hb=>?_) fun h1=>⟨⟨by omega,by omega⟩,p+1,⟨by omega,?_⟩,by omega,by omega⟩⟩
  ·symm
   rw [beq_eq_false_iff_ne]
   intro e
   rw [e] at hb
   have hb:=q4v hb
   rw [beq_self_eq_true] at hb; cases hb
  ·rw [Snd.q1n a [] p hlt,Snd.q1n b [] p (by omega),ht,beq_iff_eq.1 (q1m h1)]
 ·have hle:a.length≤p:=by have:=of_decide_eq_false hb; omega
  rw [List.take_of_length_le hle,List.take_of_length_le (by omega)] at ht
  rw [ht,beq_self_eq_true]
set_option maxRecDepth 100000 in
theorem has_vc (l:List (List Int)) (x:List Int) (h:cHas.pre (l,x)) :
  (∃ (p':Nat),(p'≤l.length∧((List.take p' l).any fun (y:List Int)=>y==x)=false)∧((0:Int)=(p':Int)∧l=l∧x=x∧True)∧True∧True∧True∧True∧True∧True ∧
  True∧True∧True)∧∀ (p:Nat),p≤l.length∧((List.take p l).any fun (y:List Int)=>y==x)=false→bif decide ((p:Int)<(l.length:Int)) then ((0:Int)≤(p:Int)∧(↑p
  : Int)<(l.length:Int))∧(l.getD (p:Int).toNat []).length≤(1000000000000000:Nat)∧bif l.getD (p:Int).toNat []==x then true=l.any fun (y:List Int)=>y==x else
  ((-9223372036854775808:Int)≤(p:Int)+(1:Int)∧(p:Int)+(1:Int)≤(9223372036854775807:Int))∧∃ (p':Nat),(p'≤l.length∧((List.take p' l).any fun (y:List Int)=>y
  == x)=false)∧l.length-p'<l.length-p∧((p:Int)+(1:Int)=(p':Int)∧l=l∧x=x∧True)∧True∧True∧True∧True∧True∧True∧True∧True∧True else false =
  l.any fun (y:List Int)=>y==x
  := by
 obtain ⟨h,hx⟩:=h
 have h:l.length≤1000000000000000:=h
 have hx:∀ y∈l,y.length≤1000000000000000:=hx
 simp only [true_and,and_true,eq_self]
 refine ⟨⟨0,⟨Nat.zero_le _,rfl⟩,rfl⟩,?_⟩
 rintro p ⟨hp,ht⟩
 have hti:((p:Int).toNat)=p:=rfl
 simp only [hti]
 refine bifP (fun hb=>?_) fun hb=>?_
 ·have hlt:p<l.length:=by have:=of_decide_eq_true hb; omega
  refine ⟨⟨by omega,by omega⟩,hx _ (Snd.q11 l [] p hlt),bifP (fun hb=>?_) fun h1=>⟨⟨by omega,by omega⟩,p+1,⟨by omega,?_⟩,by omega,by omega⟩⟩
  ·exact (Snd.any_yes l [] (fun y=>y==x) p hlt hb).symm
  ·rw [Snd.qfr l [] _ p hlt,ht,h1]; rfl
 ·have hle:l.length≤p:=by have:=of_decide_eq_false hb; omega
  rw [← ht,List.take_of_length_le hle]
set_option maxRecDepth 100000 in
theorem same_vc (d1 d2:List UInt8) (c1 c2:List Int) (p1 p2:Bool) (x1 y1 x2 y2:Int) (h:c1.length≤1000000000000000) :
  bif d1==d2 then c1.length≤(1000000000000000:Nat)∧bif c1==c2 then bif p1==p2 then (x1==x2&&(y1==y2&&true))=((d1,c1,p1,x1,y1)==(d2,c2,p2,x2,y2)) else false =
  ((d1,c1,p1,x1,y1)==(d2,c2,p2,x2,y2)) else false=((d1,c1,p1,x1,y1)==(d2,c2,p2,x2,y2)) else false=((d1,c1,p1,x1,y1)==(d2,c2,p2,x2,y2))
  := by
 have e:((d1,c1,p1,x1,y1)==(d2,c2,p2,x2,y2))=(d1==d2&&(c1==c2&&(p1==p2&&(x1==x2&&y1==y2)))):=rfl
 rw [e]
 refine bifP (fun h1=>⟨h,bifP (fun h2=>bifP (fun h3=>?_) fun h3=>?_) fun h2=>?_⟩) fun h1=>?_
 ·rw [h1,h2,h3]; simp
 ·rw [h3]; simp
 ·rw [h2]; simp
 ·rw [h1]; simp
set_option maxRecDepth 100000 in
theorem few41_vc (lang:List UInt8) (ws:List (List UInt8)) (c:CfP) (book:q0k) (most:Int) (h:most≤1000) :
  True∧bif !q83 (lang,ws) then false=q2s (lang,ws) c book most else True∧bif !q7e c then false=q2s (lang,ws) c book most else bif decide ((8:Int)<(ws.length:Int))
  then false=q2s (lang,ws) c book most else bif decide ((10:Int)<(↑(List.length c):Int)) then false=q2s (lang,ws) c book most else bif decide (most<(↑(List.length book) :
  Int)) then false=q2s (lang,ws) c book most else (∃ (p':Nat),(p'≤List.length book∧((List.take p' book).all fun (g:Cod.Giv)=>decide (g.2.1.length≤(8:Nat))&&decide
  (List.length g.1≤(60:Nat)))=true)∧((0:Int)=(p':Int)∧book=book∧True)∧((lang=lang∧ws=ws∧True)∧True)∧True∧True∧True∧True∧True∧True∧True∧True) ∧
  ∀ (p:Nat),p≤List.length book∧((List.take p book).all fun (g:Cod.Giv)=>decide (g.2.1.length≤(8:Nat))&&decide (List.length g.1≤(60:Nat)))=true→bif decide ((p:Int) <
  (↑(List.length book):Int)) then ((0:Int)≤(p:Int)∧(p:Int)<(↑(List.length book):Int))∧bif decide ((8:Int)<(↑(List.getD book (p:Int).toNat ([],[],false,(0:Int),
  (0:Int))).2.1.length:Int)) then false=q2s (lang,ws) c book most else ((0:Int)≤(p:Int)∧(p:Int)<(↑(List.length book):Int))∧bif decide ((60:Int)<(↑(List.getD book
  (p:Int).toNat ([],[],false,(0:Int),(0:Int))).1.length:Int)) then false=q2s (lang,ws) c book most else ((-9223372036854775808:Int)≤(p:Int)+(1:Int)∧(p:Int) +
  (1:Int)≤(9223372036854775807:Int))∧∃ (p':Nat),(p'≤List.length book∧((List.take p' book).all fun (g:Cod.Giv)=>decide (g.2.1.length≤(8:Nat))&&decide (List.length g.1 ≤
  (60:Nat)))=true)∧List.length book-p'<List.length book-p∧((p:Int)+(1:Int)=(p':Int)∧book=book∧True)∧((lang=lang∧ws=ws∧True)∧True)∧True∧True ∧
  True∧True∧True∧True∧True∧True else true=q2s (lang,ws) c book most
  := by
 simp only [true_and,and_true,eq_self]
 have e:q2s (lang,ws) c book most=(q83 (lang,ws)&&(q7e c&&(decide (ws.length≤8)&&(decide (List.length c≤10)&&(decide ((List.length book:Int)≤most)&&book.all fun g=>decide (g.2.1.length≤8)&&decide (g.1.length≤60)))))):=rfl
 rw [e]
 refine bifP (fun h1=>?_) fun h1=>bifP (fun h2=>?_) fun h2=>bifP (fun h3=>?_) fun h3=>bifP (fun h4=>?_) fun h4=>bifP (fun h5=>?_) fun h5=>?_
 ·rw [q4v h1]; rfl
 ·rw [q4v h2]; simp
 ·rw [decide_eq_false (p:=ws.length≤8) (by have:=of_decide_eq_true h3; omega)]; simp
 ·rw [decide_eq_false (p:=List.length c≤10) (by have:=of_decide_eq_true h4; omega)]; simp
 ·rw [decide_eq_false (p:=(List.length book:Int)≤most) (by have:=of_decide_eq_true h5; omega)]; simp
 have h5:=of_decide_eq_false h5
 rw [q1m h1,q1m h2,decide_eq_true (p:=ws.length≤8) (by have:=of_decide_eq_false h3; omega),decide_eq_true (p:=List.length c≤10) (by have:=of_decide_eq_false h4; omega),decide_eq_true (p:=(List.length book:Int)≤most) (by omega)]
 simp only [Bool.true_and]
 refine ⟨⟨0,⟨Nat.zero_le _,rfl⟩,rfl⟩,?_⟩
 rintro p ⟨hp,ht⟩
 have hti:((p:Int).toNat)=p:=rfl
 simp only [hti]
 refine bifP (fun hb=>?_) fun hb=>?_
 ·have hlt:p<book.length:=by have:=of_decide_eq_true hb; omega
  refine ⟨⟨by omega,by omega⟩,bifP (fun h8=>?_) fun h8=>⟨⟨by omega,by omega⟩,bifP (fun h60=>?_) fun h60=>⟨⟨by omega,by omega⟩,p+1,⟨by omega,?_⟩,by omega,by omega⟩⟩⟩
  ·rw [Snd.q9e book ([],[],false,0,0) _ p hlt]
   rw [decide_eq_false (by have:=of_decide_eq_true h8; omega)]; rfl
  ·rw [Snd.q9e book ([],[],false,0,0) _ p hlt]
   rw [decide_eq_false (p:=List.length (List.getD book p ([],[],false,0,0)).1≤60) (by have:=of_decide_eq_true h60; omega),Bool.and_false]
  ·rw [Snd.q6a book ([],[],false,0,0) _ p hlt,ht,Bool.true_and,Bool.and_eq_true,decide_eq_true_eq,decide_eq_true_eq]
   exact ⟨by have:=of_decide_eq_false h8; omega,by have:=of_decide_eq_false h60; omega⟩
 ·have hle:book.length≤p:=by have:=of_decide_eq_false hb; omega
  rw [← ht,List.take_of_length_le hle]
end Go.Proofs.YtfecgebhoondjaaGreatDoor
set_option linter.unusedVariables false
namespace Go.Proofs.YtfecgebhoondjaaGreatDoor
open Go.RowKit
open R
def q77:Con:=.of 30 [ckWl,ckCf,q4j] [q35] (fun _=>True) (fun p=>q2s p.1 p.2.1 p.2.2 8)
set_option maxRecDepth 100000 in
theorem q86:cEq.Holds Tryz.prog:=by
 refine q1o (cons:=[]) Tryz.func43 (by kernel_rfl) (by kernel_rfl) mixed (by kernel_rfl) all_nil (fun p=>anEq p.1 p.2) fun p hp=>?_
 obtain ⟨a,b⟩:=p
 refine cast ?_ (eq_vc a b hp)
 kernel_rfl
set_option maxRecDepth 100000 in
theorem qlj:cLess.Holds Tryz.prog:=by
 refine q1o (cons:=[]) Tryz.func44 (by kernel_rfl) (by kernel_rfl) mixed (by kernel_rfl) all_nil (fun p=>anLess p.1 p.2) fun p hp=>?_
 obtain ⟨a,b⟩:=p
 refine cast ?_ (less_vc a b hp)
 kernel_rfl
set_option maxRecDepth 100000 in
theorem sameL_holds:cSameL.Holds Tryz.prog:=by
 refine q1o (cons:=[cEq]) Tryz.func39 (by kernel_rfl) (by kernel_rfl) mixed (by kernel_rfl) (all_cons q86 all_nil) (fun p=>anSameL p.1 p.2) fun p hp=>?_
 obtain ⟨a,b⟩:=p
 refine cast ?_ (sameL_vc a b hp)
 kernel_rfl
set_option maxRecDepth 100000 in
theorem qht:cHas.Holds Tryz.prog:=by
 refine q1o (cons:=[cEq]) Tryz.func45 (by kernel_rfl) (by kernel_rfl) mixed (by kernel_rfl) (all_cons q86 all_nil) (fun p=>anHas p.1 p.2) fun p hp=>?_
 obtain ⟨l,x⟩:=p
 refine cast ?_ (has_vc l x hp)
 kernel_rfl
set_option maxRecDepth 100000 in
theorem qld:cSame.Holds Tryz.prog:=by
 refine q1o (cons:=[cEq]) Tryz.func41 (by kernel_rfl) (by kernel_rfl) mixed (by kernel_rfl) (all_cons q86 all_nil) (fun _=>[]) fun p hp=>?_
 obtain ⟨⟨d1,c1,p1,x1,y1⟩,d2,c2,p2,x2,y2⟩:=p
 refine cast ?_ (same_vc d1 d2 c1 c2 p1 p2 x1 y1 x2 y2 hp)
 kernel_rfl
set_option maxRecDepth 100000 in
theorem few41_holds:cFew41.Holds Tryz.prog:=by
 refine q1o (cons:=[cFewW,cFewC]) Tryz.func49 (by kernel_rfl) (by kernel_rfl) mixed (by kernel_rfl) (all_cons fewW_holds (all_cons fewC_holds all_nil)) (fun p=>anFew41 p.2.2.1) fun p hp=>?_
 obtain ⟨⟨lang,ws⟩,c,book,most⟩:=p
 refine cast ?_ (few41_vc lang ws c book most hp)
 kernel_rfl
theorem fewLaw41_vc (lang:List UInt8) (ws:List (List UInt8)) (c:CfP) (book:q0k) :
  (8:Int)≤(1000:Int)∧q2s (lang,ws) c book (8:Int)=q2s (lang,ws) c book (8:Int)
  := ⟨by omega,rfl⟩
set_option maxRecDepth 100000 in
theorem q4q:q77.Holds Tryz.prog:=by
 refine q1o (cons:=[cFew41]) Tryz.func30 (by kernel_rfl) (by kernel_rfl) mixed (by kernel_rfl) (all_cons few41_holds all_nil) (fun _=>[]) fun p hp=>?_
 obtain ⟨⟨lang,ws⟩,c,book⟩:=p
 refine cast ?_ (fewLaw41_vc lang ws c book)
 kernel_rfl
end Go.Proofs.YtfecgebhoondjaaGreatDoor
set_option linter.unusedVariables false
namespace Go.Proofs.YtfecgebhoondjaaGreatDoor
open Go.RowKit
open R
abbrev ckErr:CK:=.one (.int .i64)
def cMist:Con:=.of 32 [ckWl,ckCf,q2i] [qid,ckErr] (fun p=>q0d p.1∧q0h p.2.1∧List.length p.2.2≤1000000) (fun p=>Cod.Ear.q05 ⟨p.1.1,p.1.2,p.2.1⟩ p.2.2)
def ordL (l:List (List Int)):List (List Int):=l.mergeSort fun a b=>decide (Cod.cmpL a b≤0)
def q13:List (List Int)→List (List Int)
 | []=>[]
 | [x]=>[x]
 | x::y::r=>if x==y then q13 (y::r) else x::q13 (y::r)
def LongX (xs:List (List Int)):Prop:=xs.length≤1000000000∧∀ x∈xs,x.length≤1000000
def oSortL:OCon:={ f:=116,e:=40,fs:=kIs,args:=[],fa:=.fn 67,ret:=false,pre:=fun xs _ _=>LongX xs,F:=fun xs _ _=>ordL xs }
def oCompL:OCon:={ f:=68,e:=40,fs:=kIs,args:=[],fa:=.fn 69,ret:=true,pre:=fun xs _ _=>LongX xs,F:=fun xs _ _=>q13 xs }
noncomputable def inlMi:List (Nat×Func):=[(64,Tryz.f64),(66,Tryz.f66),(117,Tryz.f117),(118,Tryz.f118),(120,Tryz.f120),
 (65,Tryz.f65),(115,Tryz.f115),(149,Tryz.f149)]
noncomputable def kitMi:Kit:={ cons:=[q7r,qem,qe9,cNear],ns:=[nClone],os:=[qi7,oSortL,oCompL],inls:=inlMi }
def qim (l:List (List Int)):Row:=⟨40,kIs,l⟩
abbrev miT:Nat:=29008005000
abbrev miR:Nat:=(miT+1)*1000+700+11
def R.Get.outAt (st:St):List (List Int):=match st.row miR with
 | some y=>match y.fs.deq kIs with
  | some ⟨h⟩=>q3u h y.xs
  | none=>[]
 | none=>[]
def R.Get.miNear (st:St):q03:=Get.mapOf (.one (.int .i64)) (.one (.sl (.one (.int .i64)))) 15007 st
def keepMi (live:List Nat) (ahead:List (Nat×List Nat)):Keep:={ live:=live,sav:=savK 0 (ahead++[(13,[2]),(5,[]),(12,[1])]),box:=[28002,28003,15010],lp:=[2] }
def overMi:List (Nat×List Cell):=[(miT+2,[.own miR])]
def anMiIter (e:Cod.Ear) (code:List Int):List (Nat×Ann) :=
 [annX 0 (Nat×q03×List (List Int))
    (fun st p=>st.hd (keepMi [0,1,2,4,11,12] []) [(13,R.int .i64 p.1)] overMi [(miR,qim p.2.2)] [(15007,q5p p.2.1)] none)
    (fun _ p=>p.1≤code.length∧q09 e p.2.1∧p.2.2=e.q0i code p.1 0)
    (fun _ p=>code.length-p.1),
 annX 2 (Nat×List (List Int))
    (fun st p=>st.hd (keepMi [0,1,2,4,5,6,11,12,13,20,21] []) [(22,R.int .i64 p.1)] overMi [(miR,qim p.2)] [(15007,q5p (Get.miNear st))] none)
    (fun st p=>p.1≤(e.near (st.intOf 6)).length∧p.2=Get.outAt st++q0x e code (st.intOf 5).toNat p.1)
    (fun st p=>(e.near (st.intOf 6)).length-p.1),
 annX 2000010 (List (List Int))
    (fun st p=>st.hd (keepMi [0,1,2,4,5,6,11,12,13] []) [] overMi [(miR,qim p)] [(15007,q5p (Get.miNear st))] none)
    (fun st p=>p=Get.outAt st++[code.eraseIdx (st.intOf 5).toNat])
    (fun _ _=>0)]
def anMiHeard (e:Cod.Ear):List (Nat×Ann) :=
 [annX 2000005 (q03)
    (fun st p=>st.hd (keepMi [] [(77,q7m)]) [(5,.c (.one (.val (.sl (.one (.int .i64))) (e.near (st.intOf 1)))))] overMi [(miR,qim (Get.outAt st))] [(15007,q5p p)] none)
    (fun _ p=>q09 e p)
    (fun _ _=>0)]
def anMi (e:Cod.Ear) (code:List Int):Nat→List (Nat×Ann):=fun f =>
 bif Nat.beq f 117 then anMiIter e code
 else bif Nat.beq f 120 then anMiHeard e
 else []
def anMist (e:Cod.Ear):List (Nat×Ann) :=
 [annX 2000002 Unit (fun st _=>st.hd { live:=[2,3],sav:=[],box:=[3] } [(8,.c (.one (.ptr 15010 0))),(9,.c (.one (.val .bool (Snd.q0j e.lang e.ws&&Snd.q0o e.c))))] [(15010,[.val .str e.lang,.val (.sl (.one .str)) e.ws,.mref 15007,.val (.sl kCf) e.c])] [] [(15007,q5p [])] none) (fun _ _=>True) (fun _ _=>0)]
end Go.Proofs.YtfecgebhoondjaaGreatDoor
set_option linter.unusedVariables false
namespace Go.Proofs.YtfecgebhoondjaaGreatDoor
open Go.RowKit
open R
theorem le_trans3 {a b c:List Int} (h1:Cod.cmpL a b≤0) (h2:Cod.cmpL b c≤0):Cod.cmpL a c≤0:=by
 rcases Cod.qb7 a b with h | h | h
 ·rcases Cod.qb7 b c with h' | h' | h'
  ·have:=Cod.q49 (a:=a) (b:=b) (c:=c) (by omega) (by omega)
   omega
  ·rw [← Cod.cmp_eq h']; exact h1
  ·omega
 ·rw [Cod.cmp_eq h]; exact h2
 ·omega
theorem ord_mem {l:List (List Int)} {x:List Int}:x∈ordL l↔x∈l:=by
 unfold ordL
 exact List.mem_mergeSort
theorem ord_len (l:List (List Int)):(ordL l).length=l.length:=by
 unfold ordL
 exact List.length_mergeSort l
theorem ord_up (l:List (List Int)):(ordL l).Pairwise fun a b=>Cod.cmpL a b≤0:=by
 unfold ordL
 have:=List.pairwise_mergeSort (le:=fun a b=>decide (Cod.cmpL a b≤0)) (fun a b c h1 h2=>decide_eq_true (le_trans3 (of_decide_eq_true h1) (of_decide_eq_true h2))) (fun a b=>by
  have:=Cod.q68 a b
  rw [Bool.or_eq_true,decide_eq_true_eq,decide_eq_true_eq]
  omega) l
 exact this.imp fun h=>of_decide_eq_true h
theorem qfq {x:List Int}:∀ {l:List (List Int)},x∈q13 l↔x∈l
 | []=>Iff.rfl
 | [y]=>Iff.rfl
 | y::z::r=>by
  rw [q13]
  split
  ·rename_i h
   have h:=beq_iff_eq.1 h
   rw [qfq,h]
   simp
  ·have ih:=qfq (x:=x) (l:=z::r)
   rw [List.mem_cons,ih]
   exact List.mem_cons.symm
theorem thin_up:∀ {l:List (List Int)},l.Pairwise (fun a b=>Cod.cmpL a b≤0)→(q13 l).Pairwise fun a b=>Cod.cmpL a b<0
 | [],_=>List.Pairwise.nil
 | [y],_=>List.pairwise_singleton _ _
 | y::z::r,h=>by
  rw [List.pairwise_cons] at h
  rw [q13]
  split
  ·exact thin_up h.2
  ·rename_i hne
   rw [List.pairwise_cons]
   refine ⟨fun x hx=>?_,thin_up h.2⟩
   have hx:=qfq.1 hx
   have h1:=h.1 x hx
   rcases Cod.qb7 y x with h2 | h2 | h2
   ·omega
   ·have e:=Cod.cmp_eq h2
    subst e
    have hz:=h.1 z (List.mem_cons_self ..)
    have hz2:Cod.cmpL z y≤0:=by
     rcases List.mem_cons.1 hx with e | hx
     ·rw [e,Cod.qf8]; omega
     ·exact (List.pairwise_cons.1 h.2).1 y hx
    have ha:=Cod.q68 y z
    have:Cod.cmpL y z=0:=by omega
    rw [Cod.cmp_eq this,beq_self_eq_true] at hne
    exact absurd rfl hne
   ·omega
theorem thin_ord (l:List (List Int)):q13 (ordL l)=Cod.q1u l :=
 Cod.lists_ext (thin_up (ord_up l)) (Cod.qko l) fun x=>by rw [qfq,ord_mem,Cod.q3e]
theorem part_len (e:Cod.Ear) (code:List Int) (i k:Nat) (hw:e.ws.length≤1000000):(q0x e code i k).length≤1000000:=by
 unfold q0x
 rw [List.length_map]
 have h1:=List.length_filter_le (fun x=>!(x==code.getD i 0)) ((e.near (code.getD i 0)).take k)
 have h2:=q66 e (code.getD i 0)
 rw [List.length_take] at h1
 omega
theorem qez (e:Cod.Ear) (code:List Int) (i:Nat) (hw:e.ws.length≤1000000):(e.q2t code i).length≤1000002:=by
 rw [q73 (Nat.le_refl _),List.length_append,List.length_cons]
 have:=part_len e code i (e.near (code.getD i 0)).length hw
 split
 ·rw [List.length_nil]; omega
 ·rw [List.length_singleton]; omega
theorem qhn (e:Cod.Ear) (code:List Int) (hw:e.ws.length≤1000000):∀ k,(e.q0i code k 0).length≤k*1000002
 | 0=>by rw [Cod.Ear.q0i]; simp
 | k+1=>by
  rw [q3x,List.length_append]
  have:=qhn e code hw k
  have:=qez e code k hw
  omega
end Go.Proofs.YtfecgebhoondjaaGreatDoor
set_option linter.unusedVariables false
namespace Go.Proofs.YtfecgebhoondjaaGreatDoor
open Go.RowKit Go.Lib
open R
theorem cmp_at {xs ys:List Int} {k:Nat} (hx:k<xs.length) (hy:k<ys.length) (h:∀ j,j<k→xs.getD j 0=ys.getD j 0):Cod.cmpL xs ys=if xs.getD k 0<ys.getD k 0 then -1 else if ys.getD k 0<xs.getD k 0 then 1 else Cod.cmpL (xs.drop (k+1)) (ys.drop (k+1)):=by
 have ht:xs.take k=ys.take k:=by
  apply List.ext_getElem?
  intro i
  by_cases hi:i<k
  ·rw [List.getElem?_take_of_lt hi,List.getElem?_take_of_lt hi]
   have:=h i hi
   rw [List.getD_eq_getElem?_getD,List.getD_eq_getElem?_getD,List.getElem?_eq_getElem (by omega),List.getElem?_eq_getElem (by omega)] at this
   rw [List.getElem?_eq_getElem (by omega),List.getElem?_eq_getElem (by omega)]
   exact congrArg some this
  ·rw [List.getElem?_eq_none (by rw [List.length_take]; omega),List.getElem?_eq_none (by rw [List.length_take]; omega)]
 rw [qki ht,q61 xs hx,q61 ys hy,Cod.cmpL]
theorem qik {xs ys:List Int} {k:Nat} (h:∀ j,j<k→xs.getD j 0=ys.getD j 0) (hx:k≤xs.length) (hy:k≤ys.length) (he:k=xs.length∨k=ys.length):Cod.cmpL xs ys=if xs.length<ys.length then -1 else if ys.length<xs.length then 1 else 0:=by
 have ht:xs.take k=ys.take k:=by
  apply List.ext_getElem?
  intro i
  by_cases hi:i<k
  ·rw [List.getElem?_take_of_lt hi,List.getElem?_take_of_lt hi]
   have:=h i hi
   rw [List.getD_eq_getElem?_getD,List.getD_eq_getElem?_getD,List.getElem?_eq_getElem (by omega),List.getElem?_eq_getElem (by omega)] at this
   rw [List.getElem?_eq_getElem (by omega),List.getElem?_eq_getElem (by omega)]
   exact congrArg some this
  ·rw [List.getElem?_eq_none (by rw [List.length_take]; omega),List.getElem?_eq_none (by rw [List.length_take]; omega)]
 rw [qki ht]
 by_cases h1:k<xs.length
 ·have e2:ys.drop k=[]:=List.drop_eq_nil_of_le (by omega)
  rw [q61 xs h1,e2,Cod.cmpL,if_neg (by omega),if_pos (by omega)]
 ·have e1:xs.drop k=[]:=List.drop_eq_nil_of_le (by omega)
  rw [e1]
  by_cases h2:k<ys.length
  ·rw [q61 ys h2,Cod.cmpL,if_pos (by omega)]
  ·have e2:ys.drop k=[]:=List.drop_eq_nil_of_le (by omega)
   rw [e2,Cod.cmpL,if_neg (by omega),if_neg (by omega)]
set_option maxHeartbeats 2000000 in
set_option maxRecDepth 100000 in
theorem compare_both (b1 o1 n c b2 o2 m d:Nat) (xs ys:List Int) (w:World) (hx1:n≤xs.length) (hx2:xs.length≤n) (hy1:m≤ys.length) (hy2:ys.length≤m) (hbig:n≤9223372036854775807) (hbig2:m≤9223372036854775807) (hc1:∀ j,j<xs.length→w.cell? ⟨b1,o1+j,none⟩=some (.int .i64 (xs.getD j 0))) (hc2:∀ j,j<ys.length→w.cell? ⟨b2,o2+j,none⟩=some (.int .i64 (ys.getD j 0))) :
  Calls Tryz.prog 67 #[.slice (some ⟨b1,o1,none⟩) n c,.slice (some ⟨b2,o2,none⟩) m d] w fun e w'=>e=.returned (.int .i64 (Cod.cmpL xs ys))∧w'=w:=by
 go_enter Tryz.func67,Tryz.ntmps67
 go_wp2
 go_loopg [11] n (fun g s11 wr=>∃ k:Nat,k≤n∧k≤m∧n-k≤g∧s11=.int .i64 k∧wr=w∧∀ j,j<k→xs.getD j 0=ys.getD j 0)
 case atStart=>exact ⟨0,Nat.zero_le _,Nat.zero_le _,by omega,rfl,rfl,fun j hj=>absurd hj (Nat.not_lt_zero _)⟩
 case round =>
  obtain ⟨k,hk,hkm,hg,rfl,hw,heq⟩:=hrel
  have hw:=hw.symm
  subst hw
  by_cases hlt:k<n
  ·by_cases hlm:k<m
   ·have g1:w.cell? ⟨b1,o1+k,none⟩=some (.int .i64 (xs.getD k 0)):=hc1 k (by omega)
    have g2:w.cell? ⟨b2,o2+k,none⟩=some (.int .i64 (ys.getD k 0)):=hc2 k (by omega)
    have hcm:=cmp_at (k:=k) (by omega) (by omega) heq
    have A:Aside (∀ j,j<k→xs.getD j 0=ys.getD j 0):=heq
    clear heq hc1 hc2
    generalize hxk:xs.getD k 0=x at g1 hcm
    generalize hyk:ys.getD k 0=y at g2 hcm
    have B:Aside (xs.getD k 0=x∧ys.getD k 0=y):=⟨hxk,hyk⟩
    have C:Aside (Cod.cmpL xs ys=if x<y then -1 else if y<x then 1 else Cod.cmpL (xs.drop (k+1)) (ys.drop (k+1))):=hcm
    clear hxk hyk hcm
    have call:=Tryz.cmp_Compare_int x y w
    rcases Int.lt_trichotomy x y with hxy | hxy | hxy
    ·rw [show Lib.compareInt x y=-1 by unfold Lib.compareInt; rw [if_pos hxy]] at call
     go_wp2_with fail
     refine call.mono ?_
     rintro e w' ⟨rfl,rfl⟩
     go_wp2
     go_ret
     rw [C.out,if_pos hxy]
     exact ⟨rfl,rfl⟩
    ·subst hxy
     rw [show Lib.compareInt x x=0 by unfold Lib.compareInt; rw [if_neg (by omega),if_neg (by omega)]] at call
     go_wp2_with fail
     refine call.mono ?_
     rintro e w' ⟨rfl,rfl⟩
     go_wp2
     go_roundg (n-(k+1))
     case measure=>omega
     case rel =>
      refine ⟨k+1,by omega,by omega,by omega,by go_num,rfl,fun j hj=>?_⟩
      by_cases e:j=k
      ·subst e
       rw [B.out.1,B.out.2]
      ·exact A.out j (by omega)
    ·rw [show Lib.compareInt x y=1 by unfold Lib.compareInt; rw [if_neg (by omega),if_pos hxy]] at call
     go_wp2_with fail
     refine call.mono ?_
     rintro e w' ⟨rfl,rfl⟩
     go_wp2
     go_ret
     rw [C.out,if_neg (by omega),if_pos hxy]
     exact ⟨rfl,rfl⟩
   ·have hcm:=qik heq (by omega) (by omega) (.inr (by omega))
    rw [if_neg (by omega),if_pos (by omega)] at hcm
    have g1:w.cell? ⟨b1,o1+k,none⟩=some (.int .i64 (xs.getD k 0)):=hc1 k (by omega)
    have C:Aside (Cod.cmpL xs ys=1):=hcm
    clear heq hc1 hc2 hcm
    generalize xs.getD k 0=x at g1
    go_wp2
    go_ret
    rw [C.out]
    exact ⟨rfl,rfl⟩
  ·have hcm:=qik heq (by omega) (by omega) (.inl (by omega))
   have C:Aside (Cod.cmpL xs ys=if xs.length<ys.length then -1 else if ys.length<xs.length then 1 else 0):=hcm
   clear heq hc1 hc2 hcm
   by_cases hnm:n<m
   ·go_wp2
    go_ret
    rw [C.out,if_pos (by omega)]
    exact ⟨rfl,rfl⟩
   ·go_wp2
    go_ret
    rw [C.out,if_neg (by omega),if_neg (by omega)]
    exact ⟨rfl,rfl⟩
set_option maxHeartbeats 2000000 in
set_option maxRecDepth 100000 in
theorem compare_none (A B:Option Addr) (c m d:Nat) (ys:List Int) (w:World) (hy1:m≤ys.length) (hy2:ys.length≤m) (hbig2:m≤9223372036854775807) :
  Calls Tryz.prog 67 #[.slice A 0 c,.slice B m d] w fun e w'=>e=.returned (.int .i64 (Cod.cmpL [] ys))∧w'=w:=by
 have hcm:=qik (xs:=[]) (ys:=ys) (k:=0) (fun j hj=>absurd hj (Nat.not_lt_zero _)) (Nat.zero_le _) (Nat.zero_le _) (.inl rfl)
 have C:Aside (Cod.cmpL [] ys=if 0<ys.length then -1 else if ys.length<0 then 1 else 0):=hcm
 clear hcm
 go_enter Tryz.func67,Tryz.ntmps67
 go_wp2
 go_loopg [11] 0 (fun g s11 wr=>s11=.int .i64 0∧wr=w)
 case atStart=>exact ⟨rfl,rfl⟩
 case round =>
  obtain ⟨rfl,hw⟩:=hrel
  have hw:=hw.symm
  subst hw
  by_cases hnm:0<m
  ·go_wp2
   go_ret
   rw [C.out,if_pos (by omega)]
   exact ⟨rfl,rfl⟩
  ·go_wp2
   go_ret
   rw [C.out,if_neg (by omega),if_neg (by omega)]
   exact ⟨rfl,rfl⟩
set_option maxHeartbeats 2000000 in
set_option maxRecDepth 100000 in
theorem compare_some (b1 o1 n c:Nat) (B:Option Addr) (d:Nat) (xs:List Int) (w:World) (hx1:n≤xs.length) (hx2:xs.length≤n) (hn:0<n) (hbig:n≤9223372036854775807) (x:Int) (hc1:w.cell? ⟨b1,o1,none⟩=some (.int .i64 x)) :
  Calls Tryz.prog 67 #[.slice (some ⟨b1,o1,none⟩) n c,.slice B 0 d] w fun e w'=>e=.returned (.int .i64 (Cod.cmpL xs []))∧w'=w:=by
 have hcm:=qik (xs:=xs) (ys:=[]) (k:=0) (fun j hj=>absurd hj (Nat.not_lt_zero _)) (Nat.zero_le _) (Nat.zero_le _) (.inr rfl)
 rw [List.length_nil,if_neg (Nat.not_lt_zero _),if_pos (by omega)] at hcm
 have C:Aside (Cod.cmpL xs []=1):=hcm
 clear hcm
 go_enter Tryz.func67,Tryz.ntmps67
 go_wp2
 go_loopg [11] 0 (fun g s11 wr=>s11=.int .i64 0∧wr=w)
 case atStart=>exact ⟨rfl,rfl⟩
 case round =>
  obtain ⟨rfl,hw⟩:=hrel
  have hw:=hw.symm
  subst hw
  go_wp2
  go_ret
  rw [C.out]
  exact ⟨rfl,rfl⟩
def IntsIn (w:World) (ok:Nat→Prop) (A:Option Addr) (n:Nat) (xs:List Int):Prop :=
 n=xs.length∧(0<n→∃ g off,A=some ⟨g,off,none⟩∧g<w.heap.size∧ok g∧∀ j,j<xs.length→w.cell? ⟨g,off+j,none⟩=some (.int .i64 (xs.getD j 0)))
theorem compare_any {ok:Nat→Prop} {A B:Option Addr} {n c m d:Nat} {xs ys:List Int} {w:World} (hn:n≤9223372036854775807) (hm:m≤9223372036854775807) (hx:IntsIn w ok A n xs) (hy:IntsIn w ok B m ys) :
  Calls Tryz.prog 67 #[.slice A n c,.slice B m d] w fun e w'=>e=.returned (.int .i64 (Cod.cmpL xs ys))∧w'=w:=by
 obtain ⟨hx1,hx2⟩:=hx
 obtain ⟨hy1,hy2⟩:=hy
 by_cases h0:n=0
 ·subst h0
  obtain rfl:=List.eq_nil_of_length_eq_zero hx1.symm
  exact compare_none A B c m d ys w (Nat.le_of_eq hy1) (Nat.le_of_eq hy1.symm) hm
 ·obtain ⟨g,off,rfl,_,_,hc⟩:=hx2 (Nat.pos_of_ne_zero h0)
  by_cases h1:m=0
  ·subst h1
   obtain rfl:=List.eq_nil_of_length_eq_zero hy1.symm
   exact compare_some g off n c B d xs w (Nat.le_of_eq hx1) (Nat.le_of_eq hx1.symm) (Nat.pos_of_ne_zero h0) hn _ (hc 0 (hx1▸Nat.pos_of_ne_zero h0))
  ·obtain ⟨g2,off2,rfl,_,_,hc2⟩:=hy2 (Nat.pos_of_ne_zero h1)
   exact compare_both g off n c g2 off2 m d xs ys w (Nat.le_of_eq hx1) (Nat.le_of_eq hx1.symm) (Nat.le_of_eq hy1) (Nat.le_of_eq hy1.symm) hn hm hc hc2
end Go.Proofs.YtfecgebhoondjaaGreatDoor
set_option linter.unusedVariables false
namespace Go.Proofs.YtfecgebhoondjaaGreatDoor
open Go.RowKit Go.Lib Go.Sort
open R
structure SV (w:World) (S:Nat→Prop) where
 A:Option Addr
 c:Nat
 l:List Int
 small:l.length≤9223372036854775807
 cap:l.length≤c
 ok:IntsIn w S A l.length l
instance (w:World) (S:Nat→Prop):Inhabited (SV w S):=⟨⟨none,0,[],Nat.zero_le _,Nat.le_refl _,rfl,fun h=>absurd h (Nat.lt_irrefl _)⟩⟩
def SV.enc {w:World} {S:Nat→Prop} (x:SV w S):Value:=.slice x.A x.l.length x.c
def SV.cf {w:World} {S:Nat→Prop} (x y:SV w S):Int:=Cod.cmpL x.l y.l
theorem heap_sorted {α:Type} [Inhabited α] (enc:α→Value) (w:World) (blk off m:Nat) (dk:Array α) (os:Array Obj) {g:Nat} (hg:g<w.heap.size) (hne:g≠blk):(sortWorld enc w blk off m dk os).heap[g]? = w.heap[g]? := by
 have:blk≠g:=fun e=>hne e.symm
 simp [sortWorld,grow,putRow,mapBlock,Sort.ahead,Array.getElem?_append,Array.getElem?_modify,Array.getElem_modify,hg,this]
theorem qiy {α:Type} [Inhabited α] (enc:α→Value) (w:World) (blk off m:Nat) (dk:Array α) (os:Array Obj) {g o:Nat} (hg:g<w.heap.size) (hne:g≠blk):(sortWorld enc w blk off m dk os).cell? ⟨g,o,none⟩=w.cell? ⟨g,o,none⟩:=by
 unfold World.cell?
 rw [heap_sorted enc w blk off m dk os hg hne]
theorem qap {α:Type} [Inhabited α] (enc:α→Value) (w:World) (blk off m:Nat) (dk:Array α) (os:Array Obj):w.heap.size≤(sortWorld enc w blk off m dk os).heap.size:=by
 simp [sortWorld,grow,putRow,mapBlock,Sort.ahead]
theorem sv_lays (w:World) (S:Nat→Prop) (blk size:Nat) (hS:¬ S blk):CmpLays1 Tryz.prog 67 #[] (SV.enc (w:=w) (S:=S)) SV.cf blk 0 size w:=by
 intro m os dk hs x y
 have kept:∀ q:SV w S,IntsIn (sortWorld SV.enc w blk 0 m dk os) (fun _=>True) q.A q.l.length q.l:=fun q=>by
  refine ⟨rfl,fun h=>?_⟩
  obtain ⟨g,off,e,hg,hs,hc⟩:=q.ok.2 h
  have hne:g≠blk:=fun e2=>hS (e2▸hs)
  exact ⟨g,off,e,Nat.lt_of_lt_of_le hg (qap ..),trivial,fun j hj=>by rw [qiy _ _ _ _ _ _ _ hg hne]; exact hc j hj⟩
 refine (compare_any x.small y.small (kept x) (kept y)).mono ?_
 rintro e w' ⟨rfl,rfl⟩
 exact ⟨rfl,0,#[],by rw [grow_empty]; rfl⟩
theorem sv_swo (w:World) (S:Nat→Prop):SWO (ltOf (SV.cf (w:=w) (S:=S))) where
 irrefl x:=by
  show decide (Cod.cmpL x.l x.l<0)=false
  rw [Cod.qf8]; rfl
 trans x y z h1 h2:=by
  have h1:Cod.cmpL x.l y.l<0:=of_decide_eq_true h1
  have h2:Cod.cmpL y.l z.l<0:=of_decide_eq_true h2
  exact decide_eq_true (Cod.q49 h1 h2)
 ntrans x y z h1 h2:=by
  have h1:¬ Cod.cmpL x.l y.l<0:=of_decide_eq_false h1
  have h2:¬ Cod.cmpL y.l z.l<0:=of_decide_eq_false h2
  have a1:=Cod.q68 x.l y.l
  have a2:=Cod.q68 y.l z.l
  have a3:=Cod.q68 x.l z.l
  have:=le_trans3 (a:=z.l) (b:=y.l) (c:=x.l) (by omega) (by omega)
  show decide (Cod.cmpL x.l z.l<0)=false
  exact decide_eq_false (by omega)
theorem qm0:∀ {l m:List (List Int)},l.Perm m→l.Pairwise (fun a b=>Cod.cmpL a b≤0)→m.Pairwise (fun a b=>Cod.cmpL a b≤0)→l=m
 | [],m,h,_,_=>(List.Perm.nil_eq h)
 | a::l,[],h,_,_=>absurd h.symm.nil_eq (by simp)
 | a::l,b::m,h,h1,h2=>by
  rw [List.pairwise_cons] at h1 h2
  have hab:a=b:=by
   rcases List.mem_cons.1 (h.mem_iff.1 (List.mem_cons_self ..)) with e | ha
   ·exact e
   ·rcases List.mem_cons.1 (h.mem_iff.2 (List.mem_cons_self ..)) with e | hb
    ·exact e.symm
    ·have u1:=h1.1 b hb
     have u2:=h2.1 a ha
     have:=Cod.q68 a b
     exact Cod.cmp_eq (by omega)
  subst hab
  rw [qm0 ((List.perm_cons a).1 h) h1.2 h2.2]
theorem svs_of {w:World} {S:Nat→Prop}:∀ {xs:List (List Int)} {cells:List Value},cells.length=xs.length→(∀ (i:Nat) (x:List Int),xs[i]? = some x→∃ u,cells[i]? = some u∧∃ q:SV w S,q.enc=u∧q.l=x)→∃ ds:List (SV w S),ds.map SV.enc=cells∧ds.map SV.l=xs
 | [],cells,hl,_=>⟨[],(List.eq_nil_of_length_eq_zero hl).symm,rfl⟩
 | x::xs,[],hl,_=>by cases hl
 | x::xs,u::cells,hl,h=>by
  obtain ⟨ds,h1,h2⟩:=svs_of (xs:=xs) (cells:=cells) (by injection hl) (fun i x hx=>h (i+1) x hx)
  obtain ⟨u',hu,q,hq1,hq2⟩:=h 0 x rfl
  injection hu with hu
  exact ⟨q::ds,by rw [List.map_cons,h1,hq1,hu],by rw [List.map_cons,h2,hq2]⟩
theorem sv_of {w:World} {S:Nat→Prop} {x:List Int} {u:Value} (h:(Kd.sl (.one (.int .i64))).Rep w S x u) (hx:x.length≤9223372036854775807):∃ q:SV w S,q.enc=u∧q.l=x:=by
 obtain ⟨A,c,rfl,hc,hrow⟩:=h
 refine ⟨⟨A,c,x,hx,hc,rfl,fun hp=>?_⟩,rfl,rfl⟩
 obtain ⟨g,off,e,hg,hs,hcells⟩:=hrow hp
 refine ⟨g,off,e,hg,hs,fun j hj=>?_⟩
 obtain ⟨v,hv,hr⟩:=hcells j _ (List.getElem?_eq_getElem hj)
 have hr:v=.int .i64 x[j]:=hr
 have e3:off+j*(Kds.one (Kd.int .i64)).size=off+j:=by show off+j*1=_; omega
 rw [e3] at hv
 rw [hv,hr,List.getD_eq_getElem?_getD,List.getElem?_eq_getElem hj]; rfl
theorem sv_rep {w:World} {S:Nat→Prop} (q:SV w S):(Kd.sl (.one (.int .i64))).Rep w S q.l q.enc:=by
 refine ⟨q.A,q.c,rfl,q.cap,fun hp=>?_⟩
 obtain ⟨g,off,e,hg,hs,hc⟩:=q.ok.2 hp
 refine ⟨g,off,e,hg,hs,fun i x hx=>?_⟩
 have hi:i<q.l.length:=by
  rcases Nat.lt_or_ge i q.l.length with h | h
  ·exact h
  ·rw [List.getElem?_eq_none h] at hx; cases hx
 refine ⟨.int .i64 x,?_,rfl⟩
 have e3:off+i*(Kds.one (Kd.int .i64)).size=off+i:=by show off+i*1=_; omega
 rw [e3,hc i hi,List.getD_eq_getElem?_getD,hx]; rfl
theorem sv_row {w:World} {S:Nat→Prop} (ds:List (SV w S)):q0f (Cx.of S) w kIs (ds.map SV.l) (ds.map SV.enc):=fun i x hx f z hz=>by
 rw [List.getElem?_map] at hx
 cases hd:ds[i]? with
 | none=>rw [hd] at hx; cases hx
 | some q =>
  rw [hd] at hx
  injection hx with hx
  cases f with
  | succ f=>cases hz
  | zero =>
   injection hz with hz; subst hz
   refine ⟨q.enc,?_,hx▸sv_rep q⟩
   have e:i*kIs.size+0=i:=by show i*1+0=i; omega
   rw [e,List.getElem?_map,hd]; rfl
end Go.Proofs.YtfecgebhoondjaaGreatDoor
set_option linter.unusedVariables false
namespace Go.Proofs.YtfecgebhoondjaaGreatDoor
open Go.RowKit Go.Lib Go.Sort
open R
theorem equal_any {ok:Nat→Prop} {A B:Option Addr} {n c m d:Nat} {xs ys:List Int} {w:World} (hn:n≤9223372036854775807) (hm:m≤9223372036854775807) (hx:IntsIn w ok A n xs) (hy:IntsIn w ok B m ys) :
  Calls Tryz.prog 69 #[.slice A n c,.slice B m d] w fun e w'=>e=.returned (.bool (xs==ys))∧∃ q,w'=w.drewN q:=by
 obtain ⟨hx1,hx2⟩:=hx
 obtain ⟨hy1,hy2⟩:=hy
 by_cases hnm:n=m
 ·subst hnm
  by_cases h0:n=0
  ·subst h0
   obtain rfl:=List.eq_nil_of_length_eq_zero hx1.symm
   obtain rfl:=List.eq_nil_of_length_eq_zero hy1.symm
   refine (Tryz.slices_Equal_int_empty A B c 0 d w hm).mono ?_
   rintro e w' ⟨rfl,rfl⟩
   exact ⟨rfl,0,rfl⟩
  ·obtain ⟨g,off,rfl,_,_,hc⟩:=hx2 (Nat.pos_of_ne_zero h0)
   obtain ⟨g2,off2,rfl,_,_,hc2⟩:=hy2 (Nat.pos_of_ne_zero h0)
   refine (Tryz.slices_Equal_int g off n c g2 off2 n d xs ys w (Nat.le_of_eq hx1) (Nat.le_of_eq hy1) hn hm hc hc2).mono ?_
   rintro e w' ⟨rfl,q,rfl⟩
   rw [List.take_of_length_le (Nat.le_of_eq hx1.symm),List.take_of_length_le (Nat.le_of_eq hy1.symm)]
   exact ⟨rfl,q,rfl⟩
 ·refine (Tryz.slices_Equal_int_lens A B n c m d w hnm).mono ?_
  rintro e w' ⟨rfl,rfl⟩
  refine ⟨?_,0,rfl⟩
  have hne:(xs==ys)=false:=beq_eq_false_iff_ne.2 fun e=>hnm (by rw [hx1,hy1,e])
  rw [hne]
theorem thin_snoc (b:List Int):∀ (p:List (List Int)) (a:List Int),q13 (p++[a,b])=if a==b then q13 (p++[a]) else q13 (p++[a])++[b]
 | [],a=>by
  show q13 [a,b]=_
  rw [q13]
  by_cases h:a=b
  ·rw [if_pos (beq_iff_eq.2 h),if_pos (beq_iff_eq.2 h),h]; rfl
  ·rw [if_neg (fun e=>h (beq_iff_eq.1 e)),if_neg (fun e=>h (beq_iff_eq.1 e))]; rfl
 | [x],a=>by
  show q13 [x,a,b]=if (a==b)=true then q13 [x,a] else q13 [x,a]++[b]
  by_cases hx:(x==a)=true <;> by_cases ha:(a==b)=true <;> simp only [q13,hx,ha,if_true,if_false,Bool.false_eq_true,↓reduceIte,List.cons_append,List.nil_append] <;> simp_all
 | x::y::p,a=>by
  have ih:=thin_snoc b (y::p) a
  show q13 (x::y::(p++[a,b]))=if (a==b)=true then q13 (x::y::(p++[a])) else q13 (x::y::(p++[a]))++[b]
  rw [q13,q13]
  have e1:q13 (y::p++[a,b])=q13 (y::(p++[a,b])):=rfl
  have e2:q13 (y::p++[a])=q13 (y::(p++[a])):=rfl
  rw [e1,e2] at ih
  rw [ih]
  by_cases hx:x=y
  ·rw [if_pos (beq_iff_eq.2 hx),if_pos (beq_iff_eq.2 hx)]
  ·rw [if_neg (fun e=>hx (beq_iff_eq.1 e)),if_neg (fun e=>hx (beq_iff_eq.1 e))]
   split <;> rfl
end Go.Proofs.YtfecgebhoondjaaGreatDoor
set_option linter.unusedVariables false
namespace Go.Proofs.YtfecgebhoondjaaGreatDoor
open Go.RowKit Go.Lib Go.Sort
open R
theorem row_grown {w:World} {base:Nat} {e:TypeId} {v:Value} {n:Nat} {cells:List Value} (os:Array Obj) (h:w.ownsRow base e 1 v n cells):(grow w os).ownsRow base e 1 v n cells:=by
 rcases h with ⟨hl,h⟩
 refine ⟨hl,?_⟩
 rcases h with ⟨e0,h0⟩ | ⟨g,cap,cur,hv,hb,hg,hr⟩
 ·exact .inl ⟨e0,h0⟩
 ·refine .inr ⟨g,cap,cur,hv,hb,?_,hr⟩
  have hlt:g<w.heap.size:=by
   rcases Nat.lt_or_ge g w.heap.size with h' | h'
   ·exact h'
   ·rw [Array.getElem?_eq_none h'] at hg; cases hg
  show (w.heap++os)[g]? = _
  rw [Array.getElem?_append_left hlt]
  exact hg
theorem sortL_holds:oSortL.Holds Tryz.prog:=by
 refine ⟨⟨_,Tryz.func116,by kernel_rfl,by kernel_rfl⟩,fun xs p b v cells vs fvs w n0 S hn0 hS hvS hown hcells hpre hvs hfa _=>?_⟩
 have hfa:fvs=[.func (.func 67) #[] #[]]:=hfa
 subst hfa
 obtain ⟨xs,rfl⟩:∃ q:List (List Int),q=xs:=⟨xs,rfl⟩
 obtain ⟨hp1,hp2⟩:=hpre
 have hp1:xs.length≤1000000000:=hp1
 have hp2:∀ x∈xs,x.length≤1000000:=hp2
 have hvs2:vs=[]:=List.eq_nil_of_length_eq_zero hvs.1
 subst hvs2
 have hown1:w.ownsRow n0 40 1 v xs.length cells:=hown
 have hcl:cells.length=xs.length:=by have:=hown1.1; omega
 obtain ⟨ds,hd1,hd2⟩:=svs_of (w:=w) (S:=S) hcl fun i x hx=>by
  obtain ⟨u,hu,hr⟩:=hcells i x hx 0 ⟨Kd.sl (.one (.int .i64)),x⟩ rfl
  have e:i*oSortL.fs.size+0=i:=by show i*1+0=i; omega
  rw [e] at hu
  have hm:=hp2 x (List.mem_of_getElem? hx)
  exact ⟨u,hu,sv_of hr (by omega)⟩
 have hdl:ds.length=xs.length:=by rw [← hd2,List.length_map]
 by_cases hnil:v=.slice none 0 0
 ·subst hnil
  have h0:xs.length=0:=by
   rcases hown1.2 with ⟨_,h0⟩ | ⟨g,cap,cur,h,_⟩
   ·exact h0
   ·cases h
  have hxs:=List.eq_nil_of_length_eq_zero h0
  subst hxs
  refine (AnyF.slices_SortFunc_none (P:=Tryz.prog) (ρ:=Tryz.laysSlF6_f116_ren) { Tryz.laysSlF6_f116 with } none 0 _ w).mono ?_
  rintro e w' ⟨rfl,rfl⟩
  have e0:ordL ([]:List (List Int))=[]:=List.eq_nil_of_length_eq_zero (ord_len [])
  refine ⟨⟨rfl,rfl,rfl,Nat.le_refl _,fun _ _ _=>rfl⟩,_,cells,rfl,?_,?_,(fun h=>by cases h),fun _=>rfl⟩
  ·show World.ownsRow _ _ _ _ _ (ordL []).length _
   rw [e0]; exact hown1
  ·show q0f (Cx.of S) _ kIs (ordL []) cells
   rw [e0]; exact hcells
 ·rw [← hd1] at hown1
  obtain ⟨g,cap,rfl,hg1,hg2,hc1,hc2,_,hH⟩:=Lib.holds_of_ownsRow hown1 hnil
  have hSg:¬ S g:=hvS g rfl
  have hsort:=Tryz.slices_SortFunc SV.enc (fun x=>rfl) SV.cf (sv_swo w S) 67 #[] g 0 cap ds.toArray w (enters_of Tryz.func67 (by kernel_rfl) rfl) (sv_lays w S g _ hSg) hH hg2 (by show ds.length<_; omega)
  have hsz:ds.toArray.size=xs.length:=hdl
  rw [hsz] at hsort
  refine hsort.mono ?_
  rintro e w' ⟨rfl,d',n,os,hperm,hsorted,rfl⟩
  have hsz0:d'.size=ds.toArray.size:=hperm.1
  have hds:d'.size=ds.length:=hsz0
  have hpl:d'.toList.Perm ds:=by
   have:=hperm.2.2
   rw [Array.extract_eq_self_of_le (by omega),Array.extract_eq_self_of_le (by show ds.toArray.size≤_; omega)] at this
   exact this
  have hmap:d'.toList.map SV.l=ordL xs:=by
   refine qm0 ?_ ?_ (ord_up xs)
   ·have h1:=hpl.map SV.l
    rw [hd2] at h1
    exact h1.trans (List.mergeSort_perm _ _).symm
   ·rw [List.pairwise_map,List.pairwise_iff_getElem]
    intro i j hi hj hij
    have hj':j<d'.size:=by rwa [Array.length_toList] at hj
    have hi':i<d'.size:=by rwa [Array.length_toList] at hi
    have:=hsorted i j (Nat.zero_le _) hij (by omega)
    rw [getElem!_pos d' i hi',getElem!_pos d' j hj'] at this
    have h2:¬ Cod.cmpL d'[j].l d'[i].l<0:=of_decide_eq_false this
    have:=Cod.q68 d'[i].l d'[j].l
    show Cod.cmpL d'[i].l d'[j].l≤0
    omega
  have hrow:=ownsRow_putRow (q:=n) (k:=xs.length) (ys:=d'.toList) hown1 (by rw [Array.length_toList]; omega) (Nat.le_refl _)
  have hrow:=row_grown os hrow
  have htk:d'.toList.take xs.length=d'.toList:=List.take_of_length_le (by rw [Array.length_toList]; omega)
  rw [htk] at hrow
  refine ⟨?_,_,d'.toList.map SV.enc,rfl,?_,?_,(fun h=>by cases h),fun _=>rfl⟩
  ·refine ⟨rfl,rfl,rfl,qap ..,fun k hk hne=>?_⟩
   exact heap_sorted _ _ _ _ _ _ _ hk (fun e=>hne (by rw [e]; rfl))
  ·show World.ownsRow _ _ _ _ _ (ordL xs).length _
   rw [ord_len]
   exact hrow
  ·show q0f (Cx.of S) _ kIs (ordL xs) _
   rw [← hmap]
   exact sv_row _
end Go.Proofs.YtfecgebhoondjaaGreatDoor
set_option linter.unusedVariables false
namespace Go.Proofs.YtfecgebhoondjaaGreatDoor
open Go.RowKit Go.Lib Go.Sort
open R
theorem ints_put {w:World} {S:Nat→Prop} {blk:Nat} (hS:¬ S blk) (dk:Array (SV w S)) (m n:Nat) (q:SV w S):IntsIn ((putRow SV.enc (Sort.ahead w m) blk 0 dk).drewN n) (fun _=>True) q.A q.l.length q.l:=by
 refine ⟨rfl,fun h=>?_⟩
 obtain ⟨g,off,e,hg,hs,hc⟩:=q.ok.2 h
 have hne:g≠blk:=fun e2=>hS (e2▸hs)
 have hsz:=qap (SV.enc (w:=w) (S:=S)) w blk 0 m dk #[]
 refine ⟨g,off,e,Nat.lt_of_lt_of_le hg (by simp only [sortWorld,grow_empty] at hsz; exact hsz),trivial,fun j hj=>?_⟩
 have:=qiy (SV.enc (w:=w) (S:=S)) w blk 0 m dk #[] (o:=off+j) hg hne
 unfold sortWorld at this
 rw [grow_empty] at this
 show (putRow SV.enc (Sort.ahead w m) blk 0 dk).cell? _=_
 rw [this]
 exact hc j hj
theorem ints_drew {w:World} {S:Nat→Prop} (n:Nat) (q:SV w S):IntsIn (w.drewN n) S q.A q.l.length q.l:=⟨rfl,fun h=>q.ok.2 h⟩
theorem thin_take (T:List (List Int)) (k:Nat) (h1:1≤k) (h:k<T.length):q13 (T.take (k+1))=if (T.getD (k-1) []==T.getD k [])=true then q13 (T.take k) else q13 (T.take k)++[T.getD k []]:=by
 obtain ⟨j,rfl⟩:∃ j,k=j+1:=⟨k-1,by omega⟩
 rw [Snd.q1n T [] (j+1) h,Snd.q1n T [] j (by omega),List.append_assoc]
 exact thin_snoc _ _ _
theorem getD_l {w:World} {S:Nat→Prop} (d:Array (SV w S)) (k:Nat) (h:k<d.size):(d.toList.map SV.l).getD k []=d[k]!.l:=by
 rw [List.getD_eq_getElem?_getD,List.getElem?_map,Array.getElem?_toList,Array.getElem?_eq_getElem h,getElem!_pos d k h]; rfl
theorem qd6 {w:World} {S:Nat→Prop} (d:Array (SV w S)) (k:Nat) (h1:1≤k) (h:k<d.size):q13 ((d.toList.map SV.l).take (k+1))=if (d[k-1]!.l==d[k]!.l)=true then q13 ((d.toList.map SV.l).take k) else q13 ((d.toList.map SV.l).take k)++[d[k]!.l]:=by
 rw [thin_take _ k h1 (by rw [List.length_map,Array.length_toList]; exact h),getD_l d k h,getD_l d (k-1) (by omega)]
theorem thin_one {w:World} {S:Nat→Prop} (d:Array (SV w S)) (k:Nat) (h:k≤1):q13 ((d.toList.map SV.l).take k)=(d.toList.map SV.l).take k:=by
 have:((d.toList.map SV.l).take k).length≤1:=by rw [List.length_take]; omega
 generalize (d.toList.map SV.l).take k=T at this
 match T,this with
 | [],_=>rfl
 | [x],_=>rfl
theorem take_set_l {w:World} {S:Nat→Prop} (dk:Array (SV w S)) (kk:Nat) (u:SV w S) (h:kk<dk.size):((dk.setIfInBounds kk u).toList.take (kk+1)).map SV.l=(dk.toList.take kk).map SV.l++[u.l]:=by
 rw [Array.toList_setIfInBounds,List.take_set,List.take_succ_eq_append_getElem (by rw [Array.length_toList]; exact h),List.set_append_right _ _ (by rw [List.length_take]; omega),List.length_take]
 have e:kk-min kk dk.toList.length=0:=by rw [Array.length_toList]; omega
 rw [e,List.map_append]
 rfl
theorem lay_size {α:Type} [Inhabited α]:∀ (xs:List α) (d:Array α) (k:Nat),(Lib.lay d k xs).size=d.size
 | [],_,_=>rfl
 | x::r,d,k=>by
  rw [Lib.lay,lay_size r]
  exact Array.size_setIfInBounds
theorem lay_head {α:Type} [Inhabited α] (xs:List α) (d:Array α) (k:Nat) (h:k+xs.length≤d.size):(Lib.lay d k xs).toList.take k=d.toList.take k:=by
 apply List.ext_getElem?
 intro i
 rw [List.getElem?_take,List.getElem?_take]
 by_cases hi:i<k
 ·rw [if_pos hi,if_pos hi,Array.getElem?_toList,Array.getElem?_toList,Lib.lay_get? xs d k i h,if_neg (by omega)]
 ·rw [if_neg hi,if_neg hi]
set_option maxHeartbeats 4000000 in
set_option maxRecDepth 1000000 in
theorem compact_arr (w:World) (S:Nat→Prop) (blk cap:Nat) (d:Array (SV w S)) (hS:¬ S blk) (hH:Holds SV.enc w blk 0 d) (hsz:d.size≤1000000000) (hcap:d.size≤cap) :
  Calls Tryz.prog 68 #[.slice (some ⟨blk,0,none⟩) d.size cap,.func (.func 69) #[] #[]] w fun e w' =>
   ∃ (q kk:Nat) (dk:Array (SV w S)),e=.returned (.slice (some ⟨blk,0,none⟩) kk cap)∧w'=putRow SV.enc (Sort.ahead w q) blk 0 dk∧dk.size=d.size∧kk≤d.size∧(dk.toList.take kk).map SV.l=q13 (d.toList.map SV.l):=by
 by_cases h2:d.size<2
 ·have HH:Aside (Holds SV.enc w blk 0 d):=hH
  have HS:Aside (¬ S blk):=hS
  clear hH hS
  go_enter Tryz.func68,Tryz.ntmps68
  go_wp2
  go_ret
  refine ⟨0,d.size,d,rfl,(putRow_self SV.enc _ blk 0 d (holds_ahead SV.enc w 0 blk 0 d HH.out)).symm,rfl,Nat.le_refl _,?_⟩
  rw [List.take_of_length_le (by rw [Array.length_toList]; exact Nat.le_refl _)]
  have:=thin_one d d.size (by omega)
  rw [List.take_of_length_le (by rw [List.length_map,Array.length_toList]; exact Nat.le_refl _)] at this
  exact this.symm
 ·go_enter Tryz.func68,Tryz.ntmps68
  have HS:Aside (¬ S blk):=hS
  clear hS
  go_wp2
  go_loopg [5] d.size (fun g s5 wr=>∃ k q:Nat,1≤k∧k≤d.size∧d.size-k≤g∧s5=.int .i64 k∧wr=w.drewN q∧q13 ((d.toList.map SV.l).take k)=(d.toList.map SV.l).take k)
  case atStart=>exact ⟨1,0,Nat.le_refl _,by omega,by omega,rfl,rfl,thin_one d 1 (Nat.le_refl _)⟩
  case round =>
   obtain ⟨k,q,hk1,hk,hg,rfl,rfl,hall⟩:=hrel
   by_cases hlt:k<d.size
   ·obtain ⟨c1,f1⟩:=hH k hlt
    obtain ⟨c0,f0⟩:=hH (k-1) (by omega)
    have A:Aside (q13 ((d.toList.map SV.l).take k)=(d.toList.map SV.l).take k):=hall
    have HH:Aside (Holds SV.enc w blk 0 d):=hH
    clear hall hH
    generalize hx:d[k]! = x at c1
    generalize hy:d[k-1]! = y at c0
    have B:Aside (d[k]! = x∧d[k-1]! = y):=⟨hx,hy⟩
    clear hx hy
    have call:∀ n,Calls Tryz.prog 69 #[.slice x.A x.l.length x.c,.slice y.A y.l.length y.c] (w.drewN (q+n)) fun e w'=>e=.returned (.bool (x.l==y.l))∧∃ m,w'=w.drewN (q+m):=fun n=>(equal_any x.small y.small (ints_drew (q+n) x) (ints_drew (q+n) y)).mono fun e w' h=>by
     obtain ⟨he,m,hw⟩:=h
     exact ⟨he,n+m,by rw [hw,World.drewN_drewN,Nat.add_assoc]⟩
    have c1:w.cell? ⟨blk,0+k,none⟩=some (.slice x.A x.l.length x.c):=c1
    have c0:w.cell? ⟨blk,0+(k-1),none⟩=some (.slice y.A y.l.length y.c):=c0
    rw [Nat.zero_add] at c1 c0
    have wk:IntKind.i64.wrap ((k:Int)-1)=((k-1:Nat):Int):=by rw [IntKind.wrap_i64] <;> omega
    have pk:(((k-1:Nat):Int))<(d.size:Int):=by omega
    have pk0:(0:Int)≤((k-1:Nat):Int):=by omega
    by_cases hdup:x.l=y.l
    ·rw [show (x.l==y.l)=true from beq_iff_eq.2 hdup] at call
     have D:Aside (x.l=y.l):=hdup
     clear hdup
     go_wp2_with fail
     go_quiet (exact call _)
     go_wp2
     clear c0 c1 f0 f1 call
     go_loopg [5,7] d.size (fun g s5 s7 wr=>∃ (kk k2 q2:Nat) (dk:Array (SV w S)),s5=.int .i64 kk∧s7=.int .i64 k2∧1≤k2∧k+k2≤d.size∧d.size-(k+k2)≤g∧wr=putRow SV.enc (Sort.ahead w q2) blk 0 dk∧dk.size=d.size∧kk<k+k2∧(∀ j,kk≤j→dk[j]! = d[j]!)∧(dk.toList.take kk).map SV.l=q13 ((d.toList.map SV.l).take (k+k2)))
     case atStart =>
      refine ⟨k,1,q+nq,d,rfl,rfl,Nat.le_refl _,by omega,by omega,(putRow_self SV.enc (Sort.ahead w (q+nq)) blk 0 d (holds_ahead SV.enc w (q+nq) blk 0 d HH.out)).symm,rfl,by omega,fun _ _=>rfl,?_⟩
      rw [qd6 d k hk1 hlt,B.out.1,B.out.2,if_pos (beq_iff_eq.2 D.out.symm),A.out,List.map_take]
     case round =>
      obtain ⟨kk,k2,q2,dk,rfl,rfl,h1,hle,hg2,hwr,hds,hkk,hhigh,hthin⟩:=hrel
      have hHk:Holds SV.enc wr blk 0 dk:=by rw [hwr]; exact holds_putRow SV.enc _ blk 0 d dk (holds_ahead SV.enc w q2 blk 0 d HH.out) hds
      have W2:Aside (wr=putRow SV.enc (Sort.ahead w q2) blk 0 dk):=hwr
      have I2:Aside (dk.size=d.size∧(∀ j,kk≤j→dk[j]! = d[j]!)∧(dk.toList.take kk).map SV.l=q13 ((d.toList.map SV.l).take (k+k2))):=⟨hds,hhigh,hthin⟩
      clear hwr hthin
      by_cases hlt2:k+k2<d.size
      ·obtain ⟨cm,_⟩:=hHk (k+k2) (by omega)
       obtain ⟨cp,_⟩:=hHk (k+k2-1) (by omega)
       obtain ⟨ck,fk⟩:=hHk kk (by omega)
       rw [hhigh (k+k2) (by omega),Nat.zero_add] at cm
       rw [hhigh (k+k2-1) (by omega),show 0+(k+k2-1)=k+(k2-1) by omega] at cp
       rw [Nat.zero_add] at ck fk
       clear hHk hhigh hds
       generalize hu:d[k+k2]! = u at cm
       generalize hv:d[k+k2-1]! = v at cp
       generalize dk[kk]! = old at ck
       have C:Aside (d[k+k2]! = u∧d[k+k2-1]! = v):=⟨hu,hv⟩
       clear hu hv
       change wr.cell? ⟨blk,k+k2,none⟩=some (.slice u.A u.l.length u.c) at cm
       change wr.cell? ⟨blk,k+(k2-1),none⟩=some (.slice v.A v.l.length v.c) at cp
       change wr.cell? ⟨blk,kk,none⟩=some (.slice old.A old.l.length old.c) at ck
       have call2:∀ n,Calls Tryz.prog 69 #[.slice u.A u.l.length u.c,.slice v.A v.l.length v.c] (wr.drewN n) fun e w'=>e=.returned (.bool (u.l==v.l))∧∃ m,w'=wr.drewN m:=fun n=>by
        have h:=equal_any (w:=wr.drewN n) (c:=u.c) (d:=v.c) u.small v.small (by rw [W2.out]; exact ints_put HS.out dk q2 n u) (by rw [W2.out]; exact ints_put HS.out dk q2 n v)
        refine h.mono fun e w' h=>?_
        obtain ⟨he,m,hw⟩:=h
        exact ⟨he,n+m,by rw [hw,World.drewN_drewN]⟩
       have wk2:IntKind.i64.wrap ((k2:Int)-1)=((k2-1:Nat):Int):=by rw [IntKind.wrap_i64] <;> omega
       have pk2:(((k2-1:Nat):Int))<((d.size-k:Nat):Int):=by omega
       have pk3:(0:Int)≤((k2-1:Nat):Int):=by omega
       have pk4:((k2:Nat):Int)<((d.size-k:Nat):Int):=by omega
       by_cases huv:u.l=v.l
       ·rw [show (u.l==v.l)=true from beq_iff_eq.2 huv] at call2
        have E:Aside (u.l=v.l):=huv
        clear huv
        go_wp2_with fail
        go_quiet (exact call2 _)
        go_wp2
        go_roundg (d.size-(k+(k2+1)))
        case measure=>omega
        case rel =>
         refine ⟨kk,k2+1,q2+nq,dk,rfl,by go_num,by omega,by omega,Nat.le_refl _,?_,I2.out.1,by omega,I2.out.2.1,?_⟩
         ·rw [W2.out,putRow_drewN]
         ·rw [I2.out.2.2,show k+(k2+1)=k+k2+1 by omega,qd6 d (k+k2) (by omega) hlt2,C.out.1,C.out.2,if_pos (beq_iff_eq.2 E.out.symm)]
       ·rw [show (u.l==v.l)=false from beq_eq_false_iff_ne.2 huv] at call2
        have F:Aside (¬ u.l=v.l):=huv
        clear huv
        go_wp2_with fail
        go_quiet (exact call2 _)
        go_wp2
        go_roundg (d.size-(k+(k2+1)))
        case measure=>omega
        case rel =>
         refine ⟨kk+1,k2+1,q2+nq,dk.setIfInBounds kk u,by go_num,by go_num,by omega,by omega,Nat.le_refl _,?_,by rw [Array.size_setIfInBounds]; exact I2.out.1,by omega,?_,?_⟩
         ·have hset:=putRow_set SV.enc (Sort.ahead w (q2+nq)) blk 0 dk kk u (by rw [I2.out.1]; omega)
          rw [Nat.zero_add] at hset
          rw [W2.out,putRow_drewN]
          exact hset
         ·intro j hj
          rw [getElem!_set_other dk kk j _ (by omega),I2.out.2.1 j (by omega)]
         ·rw [take_set_l dk kk u (by rw [I2.out.1]; omega),I2.out.2.2,show k+(k2+1)=k+k2+1 by omega,qd6 d (k+k2) (by omega) hlt2,C.out.1,C.out.2,if_neg (fun e=>F.out (beq_iff_eq.1 e).symm)]
      ·have hend:k+k2=d.size:=by omega
       have hcl:∀ ty,(Builtin.clear_ #[50] ty #[.slice (some ⟨blk,kk,none⟩) (d.size-kk) (cap-kk)]).run Tryz.prog wr=.ok (.tuple #[]) (wr.setCells blk kk (List.replicate (d.size-kk) (.slice none 0 0))) :=
        fun ty=>Lib.run_clear_slice wr _ 40 ty _ (by kernel_rfl) (fun _=>rfl) rfl rfl blk kk _ _ (by omega) (fun j hj=>by have:=(hHk (kk+j) (by omega)).1; rw [Nat.zero_add] at this; rw [this]; rfl) (fun j hj=>by have:=(hHk (kk+j) (by omega)).2; rwa [Nat.zero_add] at this)
       clear hHk hhigh hds
       go_wp2
       go_ret
       have hth:=I2.out.2.2
       have hT:(d.toList.map SV.l).take d.size=d.toList.map SV.l:=List.take_of_length_le (by rw [List.length_map,Array.length_toList]; exact Nat.le_refl _)
       rw [hend,hT] at hth
       have hsz1:=I2.out.1
       have hlay:kk+(List.replicate (d.size-kk) (default:SV w S)).length≤dk.size:=by rw [List.length_replicate]; omega
       have hset:=Lib.putRow_setCells SV.enc (Sort.ahead w q2) blk 0 (List.replicate (d.size-kk) (default:SV w S)) dk kk hlay
       rw [Nat.zero_add,List.map_replicate] at hset
       refine ⟨q2,kk,Lib.lay dk kk (List.replicate (d.size-kk) default),rfl,?_,by rw [lay_size]; exact hsz1,by omega,?_⟩
       ·rw [W2.out]
        exact hset
       ·rw [lay_head _ _ _ hlay]
        exact hth
    ·rw [show (x.l==y.l)=false from beq_eq_false_iff_ne.2 hdup] at call
     go_wp2_with fail
     go_quiet (exact call _)
     go_wp2
     go_roundg (d.size-(k+1))
     case measure=>omega
     case rel =>
      refine ⟨k+1,q+nq,by omega,by omega,Nat.le_refl _,by go_num,rfl,?_⟩
      rw [qd6 d k hk1 hlt,B.out.1,B.out.2,if_neg (fun e=>hdup (beq_iff_eq.1 e).symm),A.out,Snd.q1n (d.toList.map SV.l) [] k (by rw [List.length_map,Array.length_toList]; exact hlt),getD_l d k hlt,B.out.1]
   ·have:k=d.size:=by omega
    subst this
    have HH:Aside (Holds SV.enc w blk 0 d):=hH
    clear hH
    go_wp2
    go_ret
    refine ⟨q,d.size,d,rfl,(putRow_self SV.enc _ blk 0 d (holds_ahead SV.enc w q blk 0 d HH.out)).symm,rfl,Nat.le_refl _,?_⟩
    rw [List.take_of_length_le (by rw [List.length_map,Array.length_toList]; exact Nat.le_refl _)] at hall
    rw [List.take_of_length_le (by rw [Array.length_toList]; exact Nat.le_refl _)]
    exact hall.symm
end Go.Proofs.YtfecgebhoondjaaGreatDoor
set_option linter.unusedVariables false
namespace Go.Proofs.YtfecgebhoondjaaGreatDoor
open Go.RowKit
open R
abbrev q4p (e:Cod.Ear):Prop :=
 ((e.lang=e.lang∧e.ws=e.ws∧True∧e.c=e.c∧True)∧(e.lang=e.lang∧e.ws=e.ws∧True)∧True)
abbrev q5q (code:List Int) (e:Cod.Ear):Prop :=
 ((True∧True)∧(True∧True)∧(code=code∧True)∧(e.lang=e.lang∧e.ws=e.ws∧True∧e.c=e.c∧True)∧True)
abbrev zCoT0_2 (code:List Int) (e:Cod.Ear) (p:Nat×q03×List (List Int)) (p':Nat×List (List Int)) (p_2:Nat×List (List Int)):Prop :=
 ((p_2.1:Int)+1=(p'.1:Int)∧True∧True∧True∧True∧(p.1:Int)=(p.1:Int)∧code.getD (p.1:Int).toNat (0:Int)=code.getD (p.1:Int).toNat (0:Int)∧code=code∧(code.length:Int)=(code.length:Int)∧(p.1:Int)=(p.1:Int)∧e.near (code.getD (p.1:Int).toNat (0:Int))=e.near (code.getD (p.1:Int).toNat (0:Int))∧(↑(e.near (code.getD (p.1:Int).toNat (0:Int))).length:Int)=(↑(e.near (code.getD (p.1:Int).toNat (0:Int))).length:Int)∧True)
abbrev q9w (code:List Int) (e:Cod.Ear):Prop :=
 (True∧Snd.q0o e.c=(Snd.q0j e.lang e.ws&&Snd.q0o e.c)∧code=code∧True∧True)
abbrev qae (code:List Int) (e:Cod.Ear):Prop :=
 (True∧false=(Snd.q0j e.lang e.ws&&Snd.q0o e.c)∧code=code∧True∧True)
abbrev zCoT0_5 (code:List Int) (p:Nat×q03×List (List Int)):Prop :=
 (True∧True∧True∧True∧(p.1:Int)=(p.1:Int)∧code.getD (p.1:Int).toNat (0:Int)=code.getD (p.1:Int).toNat (0:Int)∧code=code∧(code.length:Int)=(code.length:Int)∧(p.1:Int)=(p.1:Int)∧True∧True∧True∧True∧True∧True∧True)
abbrev qij (code:List Int) (p:Nat×q03×List (List Int)) (p':Nat×q03×List (List Int)):Prop :=
 ((p.1:Int)+1=(p'.1:Int)∧True∧True∧True∧True∧code=code∧(code.length:Int)=(code.length:Int)∧True)
set_option maxRecDepth 100000 in
theorem mist_vc (e:Cod.Ear) (code:List Int) (h:cMist.pre ((e.lang,e.ws),e.c,code)) :
  (((q0d (e.lang,e.ws)∧bif Snd.q0j e.lang e.ws then q0h e.c∧∃ (p':Unit),True∧(q9w code e)∧(q4p e)∧True∧True∧(([]:q03)=[]∧True)∧True∧True∧True∧True∧True else ∃ (p':Unit),True∧(qae code e)∧(q4p e)∧True∧True∧(([]:q03)=[]∧True)∧True∧True∧True∧True∧True)∧q0d (e.lang,e.ws)∧bif Snd.q0j e.lang e.ws then (q0h e.c∧∃ (p':Unit),True∧(q9w code e)∧(q4p e)∧True∧True∧(([]:q03)=[]∧True)∧True∧True∧True∧True∧True)∧q0h e.c∧∃ (p':Unit),True∧(q9w code e)∧(q4p e)∧True∧True∧(([]:q03)=[]∧True)∧True∧True∧True∧True∧True else (∃ (p':Unit),True∧(qae code e)∧(q4p e)∧True∧True∧(([]:q03)=[]∧True)∧True∧True∧True∧True∧True)∧∃ (p':Unit),True∧(qae code e)∧(q4p e)∧True∧True∧(([]:q03)=[]∧True)∧True∧True∧True∧True∧True)∧q0d (e.lang,e.ws)∧bif Snd.q0j e.lang e.ws then ((q0h e.c∧∃ (p':Unit),True∧(q9w code e)∧(q4p e)∧True∧True∧(([]:q03)=[]∧True)∧True∧True∧True∧True∧True)∧q0h e.c∧∃ (p':Unit),True∧(q9w code e)∧(q4p e)∧True∧True∧(([]:q03)=[]∧True)∧True∧True∧True∧True∧True)∧q0h e.c∧∃ (p':Unit),True∧(q9w code e)∧(q4p e)∧True∧True∧(([]:q03)=[]∧True)∧True∧True∧True∧True∧True else ((∃ (p':Unit),True∧(qae code e)∧(q4p e)∧True∧True∧(([]:q03)=[]∧True)∧True∧True∧True∧True∧True)∧∃ (p':Unit),True∧(qae code e)∧(q4p e)∧True∧True∧(([]:q03)=[]∧True)∧True∧True∧True∧True∧True)∧∃ (p':Unit),True∧(qae code e)∧(q4p e)∧True∧True∧(([]:q03)=[]∧True)∧True∧True∧True∧True∧True)∧∀ (p:Unit),True→bif !(Snd.q0j e.lang e.ws&&Snd.q0o e.c) then ([],(1:Int))=e.q05 code else (q0d (e.lang,e.ws)∧code.length≤(1000000:Nat))∧bif !Cod.q0p e.lang e.ws code then ([],(1:Int))=e.q05 code else (∃ (p':Nat×q03×List (List Int)),(p'.1≤code.length∧q09 e p'.2.1∧p'.2.2=e.q0i code p'.1 (0:Nat))∧((0:Int)=(p'.1:Int)∧True∧True∧True∧True∧code=code∧(code.length:Int)=(code.length:Int)∧True)∧(q5q code e)∧(p'.2.2=[]∧True)∧True∧([]=p'.2.1∧True)∧(True∧True∧True)∧True∧True∧True∧True∧(True∧True)∧True)∧∀ (p:Nat×q03×List (List Int)),p.1≤code.length∧q09 e p.2.1∧p.2.2=e.q0i code p.1 (0:Nat)→bif decide ((p.1:Int)<(code.length:Int)) then (0≤(p.1:Int)∧(p.1:Int)<(code.length:Int))∧(bif !(Mp.get (fun (x x_1:Int)=>x==x_1) (code.getD (p.1:Int).toNat (0:Int)) p.2.1).isSome then ((0:Int)≤code.getD (p.1:Int).toNat (0:Int)∧code.getD (p.1:Int).toNat 0<(e.ws.length:Int))∧(q0d (e.lang,e.ws)∧q0h e.c∧(e.ws.getD (code.getD (p.1:Int).toNat (0:Int)).toNat []).length≤(1000000:Nat))∧∃ (p':q03),q09 e p'∧((Snd.q0u e.lang e.ws e.c (e.ws.getD (code.getD (p.1:Int).toNat (0:Int)).toNat [])).1=e.near (code.getD (p.1:Int).toNat (0:Int))∧True)∧(q5q code e)∧(p.2.2=p.2.2∧True)∧True∧(Mp.put (fun (x x_1:Int)=>x==x_1) (code.getD (p.1:Int).toNat (0:Int)) (Snd.q0u e.lang e.ws e.c (e.ws.getD (code.getD (p.1:Int).toNat (0:Int)).toNat [])).1 p.2.1=p'∧True)∧(zCoT0_5 code p)∧True∧True∧True∧True∧(True∧True)∧True else ∃ (p':q03),q09 e p'∧((Mp.get (fun (x x_1:Int)=>x==x_1) (code.getD (p.1:Int).toNat (0:Int)) p.2.1).getD []=e.near (code.getD (p.1:Int).toNat (0:Int))∧True)∧(q5q code e)∧(p.2.2=p.2.2∧True)∧True∧(p.2.1=p'∧True)∧(zCoT0_5 code p)∧True∧True∧True∧True∧(True∧True)∧True)∧∀ (p_1:q03),q09 e p_1→(∃ (p':Nat×List (List Int)),(p'.1≤(e.near (code.getD (p.1:Int).toNat (0:Int))).length∧p'.2=p.2.2++q0x e code (p.1:Int).toNat p'.1)∧((0:Int)=(p'.1:Int)∧True∧True∧True∧True∧(p.1:Int)=(p.1:Int)∧code.getD (p.1:Int).toNat (0:Int)=code.getD (p.1:Int).toNat (0:Int)∧code=code∧(code.length:Int)=(code.length:Int)∧(p.1:Int)=(p.1:Int)∧e.near (code.getD (p.1:Int).toNat (0:Int))=e.near (code.getD (p.1:Int).toNat (0:Int))∧(↑(e.near (code.getD (p.1:Int).toNat (0:Int))).length:Int)=(↑(e.near (code.getD (p.1:Int).toNat (0:Int))).length:Int)∧True)∧(q5q code e)∧(p.2.2=p'.2∧True)∧True∧(p_1=p_1∧True)∧(True∧True∧True)∧True∧True∧True∧True∧(True∧True)∧True)∧∀ (p_2:Nat×List (List Int)),p_2.1≤(e.near (code.getD (p.1:Int).toNat (0:Int))).length∧p_2.2=p.2.2++q0x e code (p.1:Int).toNat p_2.1→bif decide ((p_2.1:Int)<(↑(e.near (code.getD (p.1:Int).toNat (0:Int))).length:Int)) then (0≤(p_2.1:Int)∧(p_2.1:Int)<(↑(e.near (code.getD (p.1:Int).toNat (0:Int))).length:Int))∧bif (e.near (code.getD (p.1:Int).toNat (0:Int))).getD (p_2.1:Int).toNat (0:Int) != code.getD (p.1:Int).toNat (0:Int) then code.length≤(1000000:Nat)∧(0≤(p.1:Int)∧(p.1:Int)<(code.length:Int))∧bif (p.1:Int).toNat.beq (p.1:Int).toNat then (p_2.2.length+[code.set (p.1:Int).toNat ((e.near (code.getD (p.1:Int).toNat (0:Int))).getD (p_2.1:Int).toNat (0:Int))].length)*(24:Nat)≤(140737488355328:Nat)∧(zFit ((p_2.1:Int)+1))∧∃ (p':Nat×List (List Int)),(p'.1≤(e.near (code.getD (p.1:Int).toNat (0:Int))).length∧p'.2=p.2.2++q0x e code (p.1:Int).toNat p'.1)∧(e.near (code.getD (p.1:Int).toNat (0:Int))).length-p'.1<(e.near (code.getD (p.1:Int).toNat (0:Int))).length-p_2.1∧(zCoT0_2 code e p p' p_2)∧(q5q code e)∧(p_2.2++[code.set (p.1:Int).toNat ((e.near (code.getD (p.1:Int).toNat (0:Int))).getD (p_2.1:Int).toNat (0:Int))]=p'.2∧True)∧True∧(p_1=p_1∧True)∧(True∧True∧True)∧True∧True∧True∧True∧(True∧True)∧True else False else (zFit ((p_2.1:Int)+1))∧∃ (p':Nat×List (List Int)),(p'.1≤(e.near (code.getD (p.1:Int).toNat (0:Int))).length∧p'.2=p.2.2++q0x e code (p.1:Int).toNat p'.1)∧(e.near (code.getD (p.1:Int).toNat (0:Int))).length-p'.1<(e.near (code.getD (p.1:Int).toNat (0:Int))).length-p_2.1∧(zCoT0_2 code e p p' p_2)∧(q5q code e)∧(p_2.2=p'.2∧True)∧True∧(p_1=p_1∧True)∧(True∧True∧True)∧True∧True∧True∧True∧(True∧True)∧True else (code.length≤(1000000:Nat)∧(zFit ((p.1:Int)+1))∧((p.1:Int)+1=(p.1:Int)+1∧0≤(p.1:Int)∧(p.1:Int)<(code.length:Int))∧(p_2.2.length+[code.eraseIdx (p.1:Int).toNat].length)*(24:Nat)≤(140737488355328:Nat)∧∃ (p':List (List Int)),p'=p_2.2++[code.eraseIdx (p.1:Int).toNat]∧(True∧True∧True∧True∧(p.1:Int)=(p.1:Int)∧code.getD (p.1:Int).toNat (0:Int)=code.getD (p.1:Int).toNat (0:Int)∧code=code∧(code.length:Int)=(code.length:Int)∧(p.1:Int)=(p.1:Int)∧True)∧(q5q code e)∧(p_2.2++[code.eraseIdx (p.1:Int).toNat]=p'∧True)∧True∧(p_1=p_1∧True)∧(True∧True∧True)∧True∧True∧True∧True∧(True∧True)∧True)∧∀ (p_3:List (List Int)),p_3=p_2.2++[code.eraseIdx (p.1:Int).toNat]→bif (p.1:Int)==(0:Int) then (zFit ((p.1:Int)+1))∧∃ (p':Nat×q03×List (List Int)),(p'.1≤code.length∧q09 e p'.2.1∧p'.2.2=e.q0i code p'.1 (0:Nat))∧code.length-p'.1<code.length-p.1∧(qij code p p')∧(q5q code e)∧(p_3=p'.2.2∧True)∧True∧(p_1=p'.2.1∧True)∧(True∧True∧True)∧True∧True∧True∧True∧(True∧True)∧True else (zFit ((p.1:Int)-1))∧(0≤(p.1:Int)-1∧(p.1:Int)-1<(code.length:Int))∧bif code.getD ((p.1:Int)-1).toNat (0:Int)==code.getD (p.1:Int).toNat (0:Int) then (zFit ((p.1:Int)+1))∧∃ (p':Nat×q03×List (List Int)),(p'.1≤code.length∧q09 e p'.2.1∧p'.2.2=e.q0i code p'.1 (0:Nat))∧code.length-p'.1<code.length-p.1∧(qij code p p')∧(q5q code e)∧(p_3=p'.2.2∧True)∧True∧(p_1=p'.2.1∧True)∧(True∧True∧True)∧True∧True∧True∧True∧(True∧True)∧True else (zFit ((p.1:Int)-1))∧(0≤(p.1:Int)-1∧(p.1:Int)-1<(code.length:Int))∧code.length≤(1000000:Nat)∧(0≤(p.1:Int)∧(p.1:Int)<(code.length:Int))∧bif (p.1:Int).toNat.beq (p.1:Int).toNat then (zFit ((p.1:Int)-1))∧(0≤(p.1:Int)-1∧(p.1:Int)-1<(↑(code.set (p.1:Int).toNat (code.getD ((p.1:Int)-1).toNat (0:Int))).length:Int))∧bif ((p.1:Int)-1).toNat.beq ((p.1:Int)-1).toNat then (p_3.length+[(code.set (p.1:Int).toNat (code.getD ((p.1:Int)-1).toNat (0:Int))).set ((p.1:Int)-1).toNat (code.getD (p.1:Int).toNat (0:Int))].length)*(24:Nat)≤(140737488355328:Nat)∧(zFit ((p.1:Int)+1))∧∃ (p':Nat×q03×List (List Int)),(p'.1≤code.length∧q09 e p'.2.1∧p'.2.2=e.q0i code p'.1 (0:Nat))∧code.length-p'.1<code.length-p.1∧(qij code p p')∧(q5q code e)∧(p_3++[(code.set (p.1:Int).toNat (code.getD ((p.1:Int)-1).toNat (0:Int))).set ((p.1:Int)-1).toNat (code.getD (p.1:Int).toNat (0:Int))]=p'.2.2∧True)∧True∧(p_1=p'.2.1∧True)∧(True∧True∧True)∧True∧True∧True∧True∧(True∧True)∧True else False else False else LongX p.2.2∧LongX (ordL p.2.2)∧(q13 (ordL p.2.2),(0:Int))=e.q05 code:=by
 delta q4p q5q zCoT0_2 q9w qae zCoT0_5 qij zFit
 obtain ⟨hW,hC,h1⟩:=h
 have hW:q0d (e.lang,e.ws):=hW
 have hC:q0h e.c:=hC
 have h1:code.length≤1000000:=h1
 have ok:e.ok=(Snd.q0j e.lang e.ws&&Snd.q0o e.c):=rfl
 have no:(e.ok&&Cod.q0p e.lang e.ws code)=false→([],(1:Int))=e.q05 code:=fun h=>by unfold Cod.Ear.q05; rw [h]; rfl
 simp only [true_and,and_true,eq_self,and_self,Nat.beq_refl,Bool.and_self,Bool.true_and,cond_true,Int.toNat_natCast,forall_const,exists_const,true_implies]
 refine ⟨?_,?_⟩
 ·clear ok no
  generalize Snd.q0j e.lang e.ws=v at *
  generalize Snd.q0o e.c=q at *
  cases v <;> cases q <;> simp [hW,hC]
 rw [← ok]
 refine bifP (fun hok=>no (by rw [q4v hok]; rfl)) fun hok=>?_
 have hok:=q1m hok
 refine ⟨⟨hW,h1⟩,bifP (fun hcd=>no (by rw [q4v hcd,Bool.and_false])) fun hcd=>?_⟩
 have hcd:=q1m hcd
 obtain ⟨⟨hg3,hg5⟩,hin⟩:=qa5 hcd
 have hws:e.ws.length≤1000000:=hW.2.1
 refine ⟨⟨(0,[],[]),⟨Nat.zero_le _,qfp e,rfl⟩,by and_intros <;> rfl⟩,?_⟩
 rintro ⟨k,nr,out⟩ ⟨hkl,hn,ho⟩
 dsimp only at *
 subst ho
 have hfl:=qhn e code hws k
 refine bifP (fun hkl=>?_) fun hkl=>?_
 rotate_left
 ·have hkl:=of_decide_eq_false hkl
  have hkk:k=code.length:=by omega
  have hsm:∀ x∈e.q0i code k 0,x.length≤1000000:=fun x hx=>by
   rw [hkk] at hx
   have:=Cod.qf3 (e:=e) (code:=code) hx
   omega
  refine ⟨⟨by omega,hsm⟩,⟨by rw [ord_len]; omega,fun x hx=>hsm x (ord_mem.1 hx)⟩,?_⟩
  rw [thin_ord]
  unfold Cod.Ear.q05
  rw [hok,hcd,hkk]; rfl
 have hkl:k<code.length:=by have:=of_decide_eq_true hkl; omega
 obtain ⟨hw0,hw1⟩:=hin k hkl
 refine ⟨⟨by omega,by omega⟩,q7s hn hW hC hw0 hw1,?_⟩
 intro nr hn
 have hnl:(e.near (code.getD k 0)).length≤1000000:=Nat.le_trans (q66 e _) hW.2.1
 refine ⟨⟨(0,e.q0i code k 0),⟨Nat.zero_le _,(List.append_nil _).symm⟩,by and_intros <;> rfl⟩,?_⟩
 rintro ⟨q,out⟩ ⟨hql,ho⟩
 dsimp only at *
 subst ho
 have hpl:=part_len e code k q hws
 refine bifP (fun hq=>?_) fun hq=>?_
 ·have hq:q<(e.near (code.getD k 0)).length:=by have:=of_decide_eq_true hq; omega
  refine ⟨⟨by omega,by omega⟩,bifP (fun hne=>?_) fun hne=>?_⟩
  ·refine ⟨by omega,⟨by omega,by omega⟩,by rw [List.length_append,List.length_singleton]; omega,⟨by omega,by omega⟩,(q+1,_),⟨by omega,?_⟩,by omega,by and_intros <;> first | rfl | omega⟩
   rw [q2y hq,if_pos hne,List.append_assoc]
  ·refine ⟨⟨by omega,by omega⟩,(q+1,_),⟨by omega,?_⟩,by omega,by and_intros <;> first | rfl | omega⟩
   rw [q2y hq,if_neg (by rw [hne]; decide),List.append_nil]
 have hq:=of_decide_eq_false hq
 have full:=q73 (e:=e) (code:=code) (i:=k) (k:=q) (by omega)
 simp only [show ((k:Int)-1).toNat=k-1 by omega]
 refine ⟨⟨by omega,⟨by omega,by omega⟩,⟨by omega,by omega⟩,by rw [List.length_append,List.length_singleton]; omega,_,rfl,rfl⟩,?_⟩
 rintro out ho
 subst ho
 have next1:(k=0∨code.getD (k-1) 0=code.getD k 0)→e.q0i code k 0++q0x e code k q++[code.eraseIdx k]=e.q0i code (k+1) 0:=fun h=>by
  rw [q3x,full,if_pos h,List.append_assoc]
 refine bifP (fun h0=>⟨⟨by omega,by omega⟩,(k+1,nr,_),⟨by omega,hn,next1 (.inl (by have:=beq_iff_eq.1 h0; omega))⟩,by omega,by and_intros <;> first | rfl | omega⟩) fun h0=>?_
 have h0:k≠0:=by have:=beq_eq_false_iff_ne.1 h0; omega
 refine ⟨⟨by omega,by omega⟩,⟨by omega,by omega⟩,bifP (fun h1=>⟨⟨by omega,by omega⟩,(k+1,nr,_),⟨by omega,hn,next1 (.inr (beq_iff_eq.1 h1))⟩,by omega,by and_intros <;> first | rfl | omega⟩) fun h1=>?_⟩
 have h1:code.getD (k-1) 0≠code.getD k 0:=beq_eq_false_iff_ne.1 h1
 refine ⟨⟨by omega,by omega⟩,⟨by omega,by omega⟩,by omega,⟨by omega,by omega⟩,⟨by omega,by omega⟩,⟨by omega,by rw [List.length_set]; omega⟩,by simp only [List.length_append,List.length_singleton]; omega,⟨by omega,by omega⟩,(k+1,nr,_),⟨by omega,hn,?_⟩,by omega,by and_intros <;> first | rfl | omega⟩
 rw [q3x,full,if_neg (fun h=>h.elim h0 h1)]
 show _++[Cod.swapAt code k]=_
 simp only [List.append_assoc,List.cons_append,List.nil_append]
end Go.Proofs.YtfecgebhoondjaaGreatDoor
set_option linter.unusedVariables false
namespace Go.Proofs.YtfecgebhoondjaaGreatDoor
open Go.RowKit
open R
theorem kitMi_ok (hc:oCompL.Holds Tryz.prog):kitMi.Ok Tryz.prog where
 cons:=all_cons q4u (all_cons q7z (all_cons q9m (all_cons qbt all_nil)))
 ns:=all_cons qdx all_nil
 os:=all_cons qd0 (all_cons sortL_holds (all_cons hc all_nil))
 fcs:=all_nil
 rcs:=all_nil
 inls:=q0m.more Tryz.func64 (by kernel_rfl) (by kernel_rfl) (q0m.more Tryz.func66 (by kernel_rfl) (by kernel_rfl) (q0m.more Tryz.func117 (by kernel_rfl) (by kernel_rfl) (q0m.more Tryz.func118 (by kernel_rfl) (by kernel_rfl) (q0m.more Tryz.func120 (by kernel_rfl) (by kernel_rfl)
  (q0m.more Tryz.func65 (by kernel_rfl) (by kernel_rfl) (q0m.more Tryz.func115 (by kernel_rfl) (by kernel_rfl) (q0m.more Tryz.func149 (by kernel_rfl) (by kernel_rfl) q0m.nil)))))))
set_option maxRecDepth 100000000 in
theorem mist_holds (hc:oCompL.Holds Tryz.prog):cMist.Holds Tryz.prog:=by
 refine holdsX (T:=kitMi) (fun p=>anMi ⟨p.1.1,p.1.2,p.2.1⟩ p.2.2) Tryz.func32 (by kernel_rfl) (by kernel_rfl) mixed (by kernel_rfl) (kitMi_ok hc) (fun p=>anMist ⟨p.1.1,p.1.2,p.2.1⟩) fun p hp=>?_
 obtain ⟨⟨lang,ws⟩,c,code⟩:=p
 refine cast ?_ (mist_vc ⟨lang,ws,c⟩ code hp)
 kernel_rfl
end Go.Proofs.YtfecgebhoondjaaGreatDoor
set_option linter.unusedVariables false
namespace Go.Proofs.YtfecgebhoondjaaGreatDoor
open Go.RowKit Go.Lib Go.Sort
open R
set_option maxRecDepth 100000 in
theorem compact_none (w:World):Calls Tryz.prog 68 #[.slice none 0 0,.func (.func 69) #[] #[]] w fun e w'=>e=.returned (.slice none 0 0)∧w'=w:=by
 go_enter Tryz.func68,Tryz.ntmps68
 go_wp2
 go_ret
 exact ⟨rfl,rfl⟩
theorem compL_holds:oCompL.Holds Tryz.prog:=by
 refine ⟨⟨_,Tryz.func68,by kernel_rfl,by kernel_rfl⟩,fun xs p b v cells vs fvs w n0 S hn0 hS hvS hown hcells hpre hvs hfa _=>?_⟩
 have hfa:fvs=[.func (.func 69) #[] #[]]:=hfa
 subst hfa
 obtain ⟨xs,rfl⟩:∃ q:List (List Int),q=xs:=⟨xs,rfl⟩
 obtain ⟨hp1,hp2⟩:=hpre
 have hp1:xs.length≤1000000000:=hp1
 have hp2:∀ x∈xs,x.length≤1000000:=hp2
 have hvs2:vs=[]:=List.eq_nil_of_length_eq_zero hvs.1
 subst hvs2
 have hown1:w.ownsRow n0 40 1 v xs.length cells:=hown
 have hcl:cells.length=xs.length:=by have:=hown1.1; omega
 obtain ⟨ds,hd1,hd2⟩:=svs_of (w:=w) (S:=S) hcl fun i x hx=>by
  obtain ⟨u,hu,hr⟩:=hcells i x hx 0 ⟨Kd.sl (.one (.int .i64)),x⟩ rfl
  have e:i*oCompL.fs.size+0=i:=by show i*1+0=i; omega
  rw [e] at hu
  have hm:=hp2 x (List.mem_of_getElem? hx)
  exact ⟨u,hu,sv_of hr (by omega)⟩
 have hdl:ds.length=xs.length:=by rw [← hd2,List.length_map]
 by_cases hnil:v=.slice none 0 0
 ·subst hnil
  have h0:xs.length=0:=by
   rcases hown1.2 with ⟨_,h0⟩ | ⟨g,cap,cur,h,_⟩
   ·exact h0
   ·cases h
  have hxs:=List.eq_nil_of_length_eq_zero h0
  subst hxs
  refine (compact_none w).mono ?_
  rintro e w' ⟨rfl,rfl⟩
  exact ⟨⟨rfl,rfl,rfl,Nat.le_refl _,fun _ _ _=>rfl⟩,_,cells,rfl,hown1,hcells,(fun _ g hg=>.inl hg),fun h=>by cases h⟩
 ·rw [← hd1] at hown1
  obtain ⟨g,cap,rfl,hg1,hg2,hc1,hc2,_,hH⟩:=Lib.holds_of_ownsRow hown1 hnil
  have hSg:¬ S g:=hvS g rfl
  have hsz:ds.toArray.size=xs.length:=hdl
  have hcomp:=compact_arr w S g cap ds.toArray hSg hH (by omega) (by omega)
  rw [hsz] at hcomp
  refine hcomp.mono ?_
  rintro e w' ⟨q,kk,dk,rfl,rfl,hsz2,hkk,hthin⟩
  have hdkl:dk.toList.length=xs.length:=by rw [Array.length_toList]; omega
  have hl:q13 (ds.map SV.l)=q13 xs:=by rw [hd2]
  have hthin:(dk.toList.take kk).map SV.l=q13 xs:=hthin.trans hl
  have hrow:=ownsRow_putRow (q:=q) (k:=kk) (ys:=dk.toList) hown1 hdkl hkk
  have hlen:(q13 xs).length=kk:=by rw [← hthin,List.length_map,List.length_take,hdkl]; omega
  refine ⟨?_,_,(dk.toList.take kk).map SV.enc,rfl,?_,?_,(fun _ g' hg'=>.inl hg'),fun h=>by cases h⟩
  ·have hb:∀ k,k<w.heap.size→k≠g→(sortWorld (SV.enc (w:=w) (S:=S)) w g 0 q dk #[]).heap[k]? = w.heap[k]? := fun k hk hne=>heap_sorted _ _ _ _ _ _ _ hk hne
   have hs:=qap (SV.enc (w:=w) (S:=S)) w g 0 q dk #[]
   unfold sortWorld at hb hs
   rw [grow_empty] at hb hs
   exact ⟨rfl,rfl,rfl,hs,fun k hk hne=>hb k hk (fun e=>hne (by rw [e]; rfl))⟩
  ·show World.ownsRow _ _ _ _ _ (q13 xs).length _
   rw [hlen]
   exact hrow
  ·show q0f (Cx.of S) _ kIs (q13 xs) _
   rw [← hthin]
   exact sv_row _
theorem q9d:cMist.Holds Tryz.prog:=mist_holds compL_holds
end Go.Proofs.YtfecgebhoondjaaGreatDoor
set_option linter.unusedVariables false
namespace Go.Proofs.YtfecgebhoondjaaGreatDoor
open Go.RowKit
open R
def q4d (n most:Int):Nat→Int→Int
 | 0,out=>out
 | f+1,out=>if most<out*n then most+1 else q4d n most f (out*n)
def cCodes:Con:=.of 31 [ckWl,q7g,q7g] [q7g] (fun p=>List.length p.1.2≤1000000∧1≤p.2.2∧p.2.2≤1000) (fun p=>q4d (List.length p.1.2) p.2.2 (min p.2.1.toNat 6) 1)
def anCodes (ws:List (List UInt8)) (size most:Int):List (Nat×Ann) :=
 [annX 0 (Nat×Int)
    (fun st p=>st.hd { live:=[1,2,3],sav:=[],box:=[3] } [(8,R.int .i64 p.1),(7,R.int .i64 p.2)] [] [] [] none)
    (fun _ p=>p.1≤min size.toNat 6∧(0≤p.2∧p.2≤most)∧q4d ws.length most (min size.toNat 6-p.1) p.2=q4d ws.length most (min size.toNat 6) 1)
    (fun _ p=>min size.toNat 6-p.1)]
end Go.Proofs.YtfecgebhoondjaaGreatDoor
set_option linter.unusedVariables false
namespace Go.Proofs.YtfecgebhoondjaaGreatDoor
open Go.RowKit
open R
set_option maxRecDepth 100000 in
theorem codes_vc (lang:List UInt8) (ws:List (List UInt8)) (size most:Int) (h:ws.length≤1000000∧1≤most∧most≤1000) :
  (∃ (p':Nat×Int),(p'.1≤min size.toNat (6:Nat)∧((0:Int)≤p'.2∧p'.2≤most)∧q4d (ws.length:Int) most (min size.toNat (6:Nat)-p'.1) p'.2=q4d (ws.length:Int)
  most (min size.toNat (6:Nat)) (1:Int))∧((0:Int)=(p'.1:Int)∧(1:Int)=p'.2∧size=size∧most=most∧True∧True)∧((lang=lang∧ws=ws∧True)∧True)∧True∧True
  ∧ True∧True∧True∧True∧True∧True)∧∀ (p:Nat×Int),p.1≤min size.toNat (6:Nat)∧((0:Int)≤p.2∧p.2≤most)∧q4d (ws.length:Int) most (min size.toNat (6:Nat) -
  p.1) p.2=q4d (ws.length:Int) most (min size.toNat (6:Nat)) (1:Int)→bif decide ((p.1:Int)<size) then bif decide ((p.1:Int)<(6:Int)) then ((-9223372036854775808 :
  Int)≤p.2*(ws.length:Int)∧p.2*(ws.length:Int)≤(9223372036854775807:Int))∧bif decide (most<p.2*(ws.length:Int)) then ((-9223372036854775808:Int)≤most+(1:Int)
  ∧ most+(1:Int)≤(9223372036854775807:Int))∧most+(1:Int)=q4d (ws.length:Int) most (min size.toNat (6:Nat)) (1:Int) else ((-9223372036854775808:Int)≤(p.1:Int) +
  (1:Int)∧(p.1:Int)+(1:Int)≤(9223372036854775807:Int))∧∃ (p':Nat×Int),(p'.1≤min size.toNat (6:Nat)∧((0:Int)≤p'.2∧p'.2≤most)∧q4d (ws.length:Int) most
  (min size.toNat (6:Nat)-p'.1) p'.2=q4d (ws.length:Int) most (min size.toNat (6:Nat)) (1:Int))∧min size.toNat (6:Nat)-p'.1<min size.toNat (6:Nat)-p.1∧((↑p.1 :
  Int)+(1:Int)=(p'.1:Int)∧p.2*(ws.length:Int)=p'.2∧size=size∧most=most∧True∧True)∧((lang=lang∧ws=ws∧True)∧True)∧True∧True∧True∧True∧True ∧
  True∧True∧True else p.2=q4d (ws.length:Int) most (min size.toNat (6:Nat)) (1:Int) else p.2=q4d (ws.length:Int) most (min size.toNat (6:Nat)) (1:Int)
  := by
 obtain ⟨hw,hm1,hm2⟩:=h
 simp only [true_and,and_true,eq_self,and_self]
 refine ⟨⟨(0,1),⟨Nat.zero_le _,⟨by omega,hm1⟩,by rw [Nat.sub_zero]⟩,rfl,rfl⟩,?_⟩
 rintro ⟨i,out⟩ ⟨hi,⟨ho0,ho1⟩,hc⟩
 dsimp only at *
 have hend:i=min size.toNat 6→out=q4d ws.length most (min size.toNat 6) 1:=fun e=>by
  rw [← hc,e,Nat.sub_self]; rfl
 refine bifP (fun h1=>bifP (fun h2=>?_) fun h2=>hend (by have:=of_decide_eq_false h2; omega)) fun h1=>hend (by have:=of_decide_eq_false h1; omega)
 have h1:=of_decide_eq_true h1
 have h2:=of_decide_eq_true h2
 have hf:min size.toNat 6-i=(min size.toNat 6-(i+1))+1:=by omega
 have hmul:out*(ws.length:Int)≤1000*1000000:=by
  refine Int.le_trans (Int.mul_le_mul_of_nonneg_right (show out≤1000 by omega) (by omega)) ?_
  exact Int.mul_le_mul_of_nonneg_left (by omega) (by omega)
 have hmul0:0≤out*(ws.length:Int):=Int.mul_nonneg ho0 (by omega)
 rw [hf,q4d] at hc
 refine ⟨⟨by omega,by omega⟩,bifP (fun h3=>⟨⟨by omega,by omega⟩,?_⟩) fun h3=>⟨⟨by omega,by omega⟩,(i+1,out*ws.length),⟨by omega,⟨hmul0,by have:=of_decide_eq_false h3; omega⟩,?_⟩,by omega,by omega,rfl⟩⟩
 ·rw [if_pos (of_decide_eq_true h3)] at hc
  exact hc
 ·rw [if_neg (of_decide_eq_false h3)] at hc
  exact hc
set_option maxRecDepth 100000 in
theorem qjv:cCodes.Holds Tryz.prog:=by
 refine q1o (cons:=[]) Tryz.func31 (by kernel_rfl) (by kernel_rfl) mixed (by kernel_rfl) all_nil (fun p=>anCodes p.1.2 p.2.1 p.2.2) fun p hp=>?_
 obtain ⟨⟨lang,ws⟩,size,most⟩:=p
 refine cast ?_ (codes_vc lang ws size most hp)
 kernel_rfl
end Go.Proofs.YtfecgebhoondjaaGreatDoor

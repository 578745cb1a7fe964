/-
  Several texts in one: CoQ, CoR, CoS, RefBytes, RefName, SzAR, HeRd, CoGt, CrA, CoGA, CoU, HeSpec, HeLaw, HeE, HeF, HeG, HeH, HeLB, HeLC, HeI, HeJL, HeK, HeJ, HeM, HeN, HeNV, HeO, HeQ.
-/
import Derived.Test.YtlfaaoalgcbcoaaGreatDoorPO
import Derived.Test.YtlfaaoalgcbcoaaGreatDoorPA
import Derived.Test.YtlfaaoalgcbcoaaGreatDoorPM
import Derived.Test.YtlfaaoalgcbcoaaGreatDoorPD
import Derived.Test.YtlfaaoalgcbcoaaGreatDoorPK
import Derived.Test.YtlfaaoalgcbcoaaGreatDoorPL
import Derived.Test.YtlfaaoalgcbcoaaGreatDoorPN
import Derived.Lib.Join
open List renaming length→Q0,take→Q4,take_of_length_le→Q5,drop_eq_nil_of_le→Q6,length_map→Qc,take_append_drop→Qd,cons_append→Qf,getD→Qi
open Go.Lib renaming join→Q7,hid→Q8
open Nat renaming zero_le→Q9,beq→Qb
open Bool renaming true_and→Qa,and_false→Qe,false_and→Qg
open UInt8 renaming toNat_lt→Qh
set_option linter.unusedVariables false
namespace Go.Proofs.YtlfaaoalgcbcoaaGreatDoor
open Go.RowKit R
theorem qmo (x y:List Int):∀ p:List Int,Cod.cmpL (p++x) (p++y)=Cod.cmpL x y
 | []=>rfl
 | a::p=>by rw [Qf,Qf,Cod.cmpL,if_neg (Int.lt_irrefl a),if_neg (Int.lt_irrefl a),qmo x y p]
theorem qkn {a b:List Int} {k:Nat} (h:a.take k=b.take k):Cod.cmpL a b=Cod.cmpL (a.drop k) (b.drop k):=by
 conv=>lhs;rw [← Qd k a,← Qd k b,h]
 exact qmo _ _ _
theorem q63 (a:List Int) {k:Nat} (h:k<a.length):a.drop k=a.getD k 0::a.drop (k+1):=by
 rw [List.drop_eq_getElem_cons h,List.getD_eq_getElem?_getD,List.getElem?_eq_getElem h];rfl
set_option maxRecDepth 100000 in
theorem eq_vc (a b:List Int) (h:cEq.pre (a,b)) :
    bif (a.length:Int) != (b.length:Int) then false=(a==b) else (∃ (p':Nat),(p'≤a.length∧Q4 p' a=Q4 p' b)∧((0:Int)=(p':Int)∧a=a∧b=b∧True) ∧
    True∧True∧True∧True∧True∧True∧True∧True∧True)∧∀ (p:Nat),p≤a.length∧Q4 p a=Q4 p b→bif decide ((p:Int)<(a.length:Int)) then ((0:Int)≤(↑p
    : Int)∧(p:Int)<(a.length:Int))∧((0:Int)≤(p:Int)∧(p:Int)<(b.length:Int))∧bif a.getD (p:Int).toNat (0:Int) != b.getD (p:Int).toNat (0:Int) then false =
    (a==b) else ((-9223372036854775808:Int)≤(p:Int)+(1:Int)∧(p:Int)+(1:Int)≤(9223372036854775807:Int))∧∃ (p':Nat),(p'≤a.length∧Q4 p' a=Q4 p' b)
    ∧ a.length-p'<a.length-p∧((p:Int)+(1:Int)=(p':Int)∧a=a∧b=b∧True)∧True∧True∧True∧True∧True∧True∧True∧True∧True else true=(a==b)
     := by
  have h:a.length≤1000000000000000:=h;simp only [true_and,and_true,eq_self];refine bifP (λhb=>?_) λhb=>?_
  · have hl:a.length≠b.length:=by have:=bne_iff_ne.1 hb;omega
    symm
    rw [beq_eq_false_iff_ne];intro e;exact hl (by rw [e])
  have hl:a.length=b.length:=by have:=bne_eq_false_iff_eq.1 hb;omega
  refine ⟨⟨0,⟨Q9 _,rfl⟩,rfl⟩,?_⟩;rintro p ⟨hp,ht⟩;have hti:((p:Int).toNat)=p:=rfl;simp only [hti];refine bifP (λhb=>?_) λhb=>?_
  · have hlt:p<a.length:=by have:=of_decide_eq_true hb;omega
    refine ⟨⟨by omega,by omega⟩,⟨by omega,by omega⟩,bifP (λhb=>?_) λh1=>⟨⟨by omega,by omega⟩,p+1,⟨by omega,?_⟩,by omega,by omega⟩⟩
    · symm
      rw [beq_eq_false_iff_ne];intro e;rw [e] at hb;exact (bne_iff_ne.1 hb) rfl
    · rw [Snd.q0t a 0 p hlt,Snd.q0t b 0 p (by omega),ht,bne_eq_false_iff_eq.1 h1]
  · have hle:a.length≤p:=by have:=of_decide_eq_false hb;omega
    rw [Q5 hle,Q5 (by omega)] at ht
    rw [ht,beq_self_eq_true]
set_option maxRecDepth 100000 in
theorem less_vc (a b:List Int) (h:cLess.pre (a,b)) :
    (∃ (p':Nat),(p'≤a.length∧p'≤b.length∧Q4 p' a=Q4 p' b)∧((0:Int)=(p':Int)∧a=a∧b=b∧True)∧True∧True∧True∧True∧True∧True∧True∧True ∧
    True)∧∀ (p:Nat),p≤a.length∧p≤b.length∧Q4 p a=Q4 p b→bif decide ((p:Int)<(a.length:Int)) then bif decide ((p:Int)<(b.length:Int)) then ((0 :
    Int)≤(p:Int)∧(p:Int)<(a.length:Int))∧((0:Int)≤(p:Int)∧(p:Int)<(b.length:Int))∧bif a.getD (p:Int).toNat (0:Int) != b.getD (p:Int).toNat (0:Int)
    then ((0:Int)≤(p:Int)∧(p:Int)<(a.length:Int))∧((0:Int)≤(p:Int)∧(p:Int)<(b.length:Int))∧decide (a.getD (p:Int).toNat (0:Int)<b.getD (↑p :
    Int).toNat (0:Int))=Cod.q3u a b else ((-9223372036854775808:Int)≤(p:Int)+(1:Int)∧(p:Int)+(1:Int)≤(9223372036854775807:Int))∧∃ (p':Nat),(p'≤a.length∧p'
    ≤ b.length∧Q4 p' a=Q4 p' b)∧a.length-p'<a.length-p∧((p:Int)+(1:Int)=(p':Int)∧a=a∧b=b∧True)∧True∧True∧True∧True∧True∧True∧True
    ∧ True∧True else decide ((a.length:Int)<(b.length:Int))=Cod.q3u a b else decide ((a.length:Int)<(b.length:Int))=Cod.q3u a b
     := by
  have h:a.length≤1000000000000000:=h;simp only [true_and,and_true,eq_self];refine ⟨⟨0,⟨Q9 _,Q9 _,rfl⟩,rfl⟩,?_⟩;rintro p ⟨hp,hp2,ht⟩;have hti:((p:Int).toNat)=p:=rfl;simp only [hti];have hc:=qkn ht;refine bifP (λhb=>bifP (λhb2=>?_) λhb2=>?_) λhb=>?_
  · have hlt:p<a.length:=by have:=of_decide_eq_true hb;omega
    have hlt2:p<b.length:=by have:=of_decide_eq_true hb2;omega
    refine ⟨⟨by omega,by omega⟩,⟨by omega,by omega⟩,bifP (λhne=>⟨⟨by omega,by omega⟩,⟨by omega,by omega⟩,?_⟩) λh1=>⟨⟨by omega,by omega⟩,p+1,⟨by omega,by omega,?_⟩,by omega,by omega⟩⟩
    · have hne:=bne_iff_ne.1 hne
      unfold Cod.q3u;rw [hc,q63 a hlt,q63 b hlt2,Cod.cmpL];by_cases hu:a.getD p 0<b.getD p 0
      · rw [if_pos hu,decide_eq_true hu];rfl
      · rw [if_neg hu,if_pos (by omega),decide_eq_false hu];rfl
    · rw [Snd.q0t a 0 p hlt,Snd.q0t b 0 p hlt2,ht,bne_eq_false_iff_eq.1 h1]
  · have hlt:p<a.length:=by have:=of_decide_eq_true hb;omega
    have hle:b.length≤p:=by have:=of_decide_eq_false hb2;omega
    unfold Cod.q3u;rw [hc,q63 a hlt,Q6 hle,Cod.cmpL,decide_eq_false (by omega)];rfl
  · have hle:a.length≤p:=by have:=of_decide_eq_false hb;omega
    unfold Cod.q3u;rw [hc,Q6 hle];by_cases hlt2:p<b.length
    · rw [q63 b hlt2,Cod.cmpL,decide_eq_true (by omega)];rfl
    · rw [Q6 (by omega),Cod.cmpL,decide_eq_false (by omega)];rfl
set_option maxRecDepth 100000 in
theorem sameL_vc (a b:List (List Int)) (h:cSameL.pre (a,b)) :
    bif (a.length:Int) != (b.length:Int) then false=(a==b) else (∃ (p':Nat),(p'≤a.length∧Q4 p' a=Q4 p' b)∧((0:Int)=(p':Int)∧a=a∧b=b∧True) ∧
    True∧True∧True∧True∧True∧True∧True∧True∧True)∧∀ (p:Nat),p≤a.length∧Q4 p a=Q4 p b→bif decide ((p:Int)<(a.length:Int)) then ((0:Int)≤(↑p
    : Int)∧(p:Int)<(a.length:Int))∧((0:Int)≤(p:Int)∧(p:Int)<(b.length:Int))∧(a.getD (p:Int).toNat []).length≤(1000000000000000:Nat)∧bif !a.getD (↑p :
    Int).toNat []==b.getD (p:Int).toNat [] then false=(a==b) else ((-9223372036854775808:Int)≤(p:Int)+(1:Int)∧(p:Int)+(1:Int)≤(9223372036854775807:Int))∧∃ (p'
    : Nat),(p'≤a.length∧Q4 p' a=Q4 p' b)∧a.length-p'<a.length-p∧((p:Int)+(1:Int)=(p':Int)∧a=a∧b=b∧True)∧True∧True∧True∧True∧True ∧
    True∧True∧True∧True else true=(a==b)
     := by
  obtain ⟨h,hx⟩:=h;have h:a.length≤1000000000000000:=h;have hx:∀ x∈a,x.length≤1000000000000000:=hx;simp only [true_and,and_true,eq_self];refine bifP (λhb=>?_) λhb=>?_
  · have hl:a.length≠b.length:=by have:=bne_iff_ne.1 hb;omega
    symm
    rw [beq_eq_false_iff_ne];intro e;exact hl (by rw [e])
  have hl:a.length=b.length:=by have:=bne_eq_false_iff_eq.1 hb;omega
  refine ⟨⟨0,⟨Q9 _,rfl⟩,rfl⟩,?_⟩;rintro p ⟨hp,ht⟩;have hti:((p:Int).toNat)=p:=rfl;simp only [hti];refine bifP (λhb=>?_) λhb=>?_
  · have hlt:p<a.length:=by have:=of_decide_eq_true hb;omega
    refine ⟨⟨by omega,by omega⟩,⟨by omega,by omega⟩,hx _ (Snd.q1n a [] p hlt),bifP (λhb=>?_) λh1=>⟨⟨by omega,by omega⟩,p+1,⟨by omega,?_⟩,by omega,by omega⟩⟩
    · symm
      rw [beq_eq_false_iff_ne];intro e;rw [e] at hb;have hb:=q4v hb;rw [beq_self_eq_true] at hb;cases hb
    · rw [Snd.q0t a [] p hlt,Snd.q0t b [] p (by omega),ht,beq_iff_eq.1 (q49 h1)]
  · have hle:a.length≤p:=by have:=of_decide_eq_false hb;omega
    rw [Q5 hle,Q5 (by omega)] at ht
    rw [ht,beq_self_eq_true]
set_option maxRecDepth 100000 in
theorem same_vc (d1 d2:List UInt8) (c1 c2:List Int) (p1 p2:Bool) (x1 y1 x2 y2:Int) (h:c1.length≤1000000000000000) :
    bif d1==d2 then c1.length≤(1000000000000000:Nat)∧bif c1==c2 then bif p1==p2 then (x1==x2&&(y1==y2&&true))=((d1,c1,p1,x1,y1)==(d2,c2,p2,x2,y2)) else false =
    ((d1,c1,p1,x1,y1)==(d2,c2,p2,x2,y2)) else false=((d1,c1,p1,x1,y1)==(d2,c2,p2,x2,y2)) else false=((d1,c1,p1,x1,y1)==(d2,c2,p2,x2,y2))
     := by
  have e:((d1,c1,p1,x1,y1)==(d2,c2,p2,x2,y2))=(d1==d2&&(c1==c2&&(p1==p2&&(x1==x2&&y1==y2)))):=rfl;rw [e];refine bifP (λh1=>⟨h,bifP (λh2=>bifP (λh3=>?_) λh3=>?_) λh2=>?_⟩) λh1=>?_
  · rw [h1,h2,h3];simp
  · rw [h3];simp
  · rw [h2];simp
  · rw [h1];simp
set_option maxRecDepth 100000 in
theorem few41_vc (lang:List UInt8) (ws:List (List UInt8)) (c:CfP) (book:q13) (most:Int) (h:most≤1000) :
    True∧bif !q82 (lang,ws) then false=q5c (lang,ws) c book most else True∧bif !q7c c then false=q5c (lang,ws) c book most else bif decide ((8:Int)<(ws.length:Int))
    then false=q5c (lang,ws) c book most else bif decide ((10:Int)<(↑(Q0 c):Int)) then false=q5c (lang,ws) c book most else bif decide (most<(↑(Q0 book) :
    Int)) then false=q5c (lang,ws) c book most else (∃ (p':Nat),(p'≤Q0 book∧((Q4 p' book).all λ(g:Cod.Giv)=>decide (g.2.1.length≤(8:Nat))&&decide
    (Q0 g.1≤(60:Nat)))=true)∧((0:Int)=(p':Int)∧book=book∧True)∧((lang=lang∧ws=ws∧True)∧True)∧True∧True∧True∧True∧True∧True∧True∧True) ∧
    ∀ (p:Nat),p≤Q0 book∧((Q4 p book).all λ(g:Cod.Giv)=>decide (g.2.1.length≤(8:Nat))&&decide (Q0 g.1≤(60:Nat)))=true→bif decide ((p:Int) <
    (↑(Q0 book):Int)) then ((0:Int)≤(p:Int)∧(p:Int)<(↑(Q0 book):Int))∧bif decide ((8:Int)<(↑(Qi book (p:Int).toNat ([],[],false,(0:Int),
    (0:Int))).2.1.length:Int)) then false=q5c (lang,ws) c book most else ((0:Int)≤(p:Int)∧(p:Int)<(↑(Q0 book):Int))∧bif decide ((60:Int)<(↑(Qi book
    (p:Int).toNat ([],[],false,(0:Int),(0:Int))).1.length:Int)) then false=q5c (lang,ws) c book most else ((-9223372036854775808:Int)≤(p:Int)+(1:Int)∧(p:Int) +
    (1:Int)≤(9223372036854775807:Int))∧∃ (p':Nat),(p'≤Q0 book∧((Q4 p' book).all λ(g:Cod.Giv)=>decide (g.2.1.length≤(8:Nat))&&decide (Q0 g.1 ≤
    (60:Nat)))=true)∧Q0 book-p'<Q0 book-p∧((p:Int)+(1:Int)=(p':Int)∧book=book∧True)∧((lang=lang∧ws=ws∧True)∧True)∧True∧True ∧
    True∧True∧True∧True∧True∧True else true=q5c (lang,ws) c book most
     := by
  simp only [true_and,and_true,eq_self];have e:q5c (lang,ws) c book most=(q82 (lang,ws)&&(q7c c&&(decide (ws.length≤8)&&(decide (Q0 c≤10)&&(decide ((Q0 book:Int)≤most)&&book.all λg=>decide (g.2.1.length≤8)&&decide (g.1.length≤60)))))):=rfl
  rw [e];refine bifP (λh1=>?_) λh1=>bifP (λh2=>?_) λh2=>bifP (λh3=>?_) λh3=>bifP (λh4=>?_) λh4=>bifP (λh5=>?_) λh5=>?_
  · rw [q4v h1];rfl
  · rw [q4v h2];simp
  · rw [decide_eq_false (p:=ws.length≤8) (by have:=of_decide_eq_true h3;omega)];simp
  · rw [decide_eq_false (p:=Q0 c≤10) (by have:=of_decide_eq_true h4;omega)];simp
  · rw [decide_eq_false (p:=(Q0 book:Int)≤most) (by have:=of_decide_eq_true h5;omega)];simp
  have h5:=of_decide_eq_false h5;rw [q49 h1,q49 h2,decide_eq_true (p:=ws.length≤8) (by have:=of_decide_eq_false h3;omega),decide_eq_true (p:=Q0 c≤10) (by have:=of_decide_eq_false h4;omega),decide_eq_true (p:=(Q0 book:Int)≤most) (by omega)]
  simp only [Qa];refine ⟨⟨0,⟨Q9 _,rfl⟩,rfl⟩,?_⟩;rintro p ⟨hp,ht⟩;have hti:((p:Int).toNat)=p:=rfl;simp only [hti];refine bifP (λhb=>?_) λhb=>?_
  · have hlt:p<book.length:=by have:=of_decide_eq_true hb;omega
    refine ⟨⟨by omega,by omega⟩,bifP (λh8=>?_) λh8=>⟨⟨by omega,by omega⟩,bifP (λh60=>?_) λh60=>⟨⟨by omega,by omega⟩,p+1,⟨by omega,?_⟩,by omega,by omega⟩⟩⟩
    · rw [Snd.q6h book ([],[],false,0,0) _ p hlt]
      rw [decide_eq_false (by have:=of_decide_eq_true h8;omega)];rfl
    · rw [Snd.q6h book ([],[],false,0,0) _ p hlt]
      rw [decide_eq_false (p:=Q0 (Qi book p ([],[],false,0,0)).1≤60) (by have:=of_decide_eq_true h60;omega),Qe]
    · rw [Snd.q4t book ([],[],false,0,0) _ p hlt,ht,Qa,Bool.and_eq_true,decide_eq_true_eq,decide_eq_true_eq]
      exact ⟨by have:=of_decide_eq_false h8;omega,by have:=of_decide_eq_false h60;omega⟩
  · have hle:book.length≤p:=by have:=of_decide_eq_false hb;omega
    rw [← ht,Q5 hle]
def cFewLaw41:Con:=.of 12 [ckWl,ckCf,q7s] [q2p] (λ_=>True) (λp=>q5c p.1 p.2.1 p.2.2 8)
set_option maxRecDepth 100000 in
theorem qaj:cEq.Holds Tryz.prog:=by
 refine q0s (cons:=[]) Tryz.func39 (by kernel_rfl) (by kernel_rfl) mixed (by kernel_rfl) all_nil (λp=>anEq p.1 p.2) λp hp=>?_
 obtain ⟨a,b⟩:=p;refine cast ?_ (eq_vc a b hp)
 kernel_rfl
set_option maxRecDepth 100000 in
theorem less_holds:cLess.Holds Tryz.prog:=by
 refine q0s (cons:=[]) Tryz.func127 (by kernel_rfl) (by kernel_rfl) mixed (by kernel_rfl) all_nil (λp=>anLess p.1 p.2) λp hp=>?_
 obtain ⟨a,b⟩:=p;refine cast ?_ (less_vc a b hp)
 kernel_rfl
set_option maxRecDepth 100000 in
theorem qk1:cSameL.Holds Tryz.prog:=by
 refine q0s (cons:=[cEq]) Tryz.func22 (by kernel_rfl) (by kernel_rfl) mixed (by kernel_rfl) (all_cons qaj all_nil) (λp=>anSameL p.1 p.2) λp hp=>?_
 obtain ⟨a,b⟩:=p;refine cast ?_ (sameL_vc a b hp)
 kernel_rfl
set_option maxRecDepth 100000 in
theorem same_holds:cSame.Holds Tryz.prog:=by
 refine q0s (cons:=[cEq]) Tryz.func25 (by kernel_rfl) (by kernel_rfl) mixed (by kernel_rfl) (all_cons qaj all_nil) (λ_=>[]) λp hp=>?_
 obtain ⟨⟨d1,c1,p1,x1,y1⟩,d2,c2,p2,x2,y2⟩:=p;refine cast ?_ (same_vc d1 d2 c1 c2 p1 p2 x1 y1 x2 y2 hp)
 kernel_rfl
set_option maxRecDepth 100000 in
theorem few41_holds:cFew41.Holds Tryz.prog:=by
 refine q0s (cons:=[cFewW,cFewC]) Tryz.func26 (by kernel_rfl) (by kernel_rfl) mixed (by kernel_rfl) (all_cons fewW_holds (all_cons fewC_holds all_nil)) (λp=>anFew41 p.2.2.1) λp hp=>?_
 obtain ⟨⟨lang,ws⟩,c,book,most⟩:=p;refine cast ?_ (few41_vc lang ws c book most hp)
 kernel_rfl
theorem fewLaw41_vc (lang:List UInt8) (ws:List (List UInt8)) (c:CfP) (book:q13) :
    (8:Int)≤(1000:Int)∧q5c (lang,ws) c book (8:Int)=q5c (lang,ws) c book (8:Int)
     := ⟨by omega,rfl⟩
set_option maxRecDepth 100000 in
theorem qms:cFewLaw41.Holds Tryz.prog:=by
 refine q0s (cons:=[cFew41]) Tryz.func12 (by kernel_rfl) (by kernel_rfl) mixed (by kernel_rfl) (all_cons few41_holds all_nil) (λ_=>[]) λp hp=>?_
 obtain ⟨⟨lang,ws⟩,c,book⟩:=p;refine cast ?_ (fewLaw41_vc lang ws c book)
 kernel_rfl
abbrev ckErr:CK:=.one (.int .i64)
def cMist:Con:=.of 14 [ckWl,ckCf,q2h] [q6k,ckErr] (λp=>q0j p.1∧q0n p.2.1∧Q0 p.2.2≤1000000) (λp=>Cod.Ear.q3x ⟨p.1.1,p.1.2,p.2.1⟩ p.2.2)
def ordL (l:List (List Int)):List (List Int):=l.mergeSort λa b=>decide (Cod.cmpL a b≤0)
def q17:List (List Int)→List (List Int)
 | []=>[]
 | [x]=>[x]
 | x::y::r=>if x==y then q17 (y::r) else x::q17 (y::r)
def q2c (xs:List (List Int)):Prop:=xs.length≤1000000000∧∀ x∈xs,x.length≤1000000
def oSortL:OCon:={ f:=88,e:=36,fs:=kIs,args:=[],fa:=.fn 43,ret:=false,pre:=λxs _ _=>q2c xs,F:=λxs _ _=>ordL xs }
def oCompL:OCon:={ f:=44,e:=36,fs:=kIs,args:=[],fa:=.fn 45,ret:=true,pre:=λxs _ _=>q2c xs,F:=λxs _ _=>q17 xs }
noncomputable def inlMi:List (Nat×Func):=[(40,Tryz.f40),(42,Tryz.f42),(89,Tryz.f89),(90,Tryz.f90),(92,Tryz.f92),
 (41,Tryz.f41),(87,Tryz.f87),(121,Tryz.f121)]
noncomputable def kitMi:Kit:={ cons:=[q8l,qeh,qj0,cNear],ns:=[nClone],os:=[qiw,oSortL,oCompL],inls:=inlMi }
def qiz (l:List (List Int)):Row:=⟨36,kIs,l⟩
abbrev miT:Nat:=29008005000
abbrev miR:Nat:=(miT+1)*1000+700+11
def R.Get.outAt (st:St):List (List Int):=match st.row miR with
 | some y=>match y.fs.deq kIs with
  | some ⟨h⟩=>q3r h y.xs
  | none=>[]
 | none=>[]
def R.Get.miNear (st:St):q03:=Get.mapOf (.one (.int .i64)) (.one (.sl (.one (.int .i64)))) 15007 st
def keepMi (live:List Nat) (ahead:List (Nat×List Nat)):Keep:={ live:=live,sav:=savK 0 (ahead++[(13,[2]),(5,[]),(12,[1])]),box:=[28002,28003,15010],lp:=[2] }
def overMi:List (Nat×List Cell):=[(miT+2,[.own miR])]
def anMiIter (e:Cod.Ear) (code:List Int):List (Nat×Ann) :=
  [annX 0 (Nat×q03×List (List Int))
        (λst p=>st.hd (keepMi [0,1,2,4,11,12] []) [(13,R.int .i64 p.1)] overMi [(miR,qiz p.2.2)] [(15007,q5r p.2.1)] none)
        (λ_ p=>p.1≤code.length∧q0a e p.2.1∧p.2.2=e.q0i code p.1 0)
        (λ_ p=>code.length-p.1),
   annX 2 (Nat×List (List Int))
        (λst p=>st.hd (keepMi [0,1,2,4,5,6,11,12,13,20,21] []) [(22,R.int .i64 p.1)] overMi [(miR,qiz p.2)] [(15007,q5r (Get.miNear st))] none)
        (λst p=>p.1≤(e.near (st.intOf 6)).length∧p.2=Get.outAt st++q0y e code (st.intOf 5).toNat p.1)
        (λst p=>(e.near (st.intOf 6)).length-p.1),
   annX 2000010 (List (List Int))
        (λst p=>st.hd (keepMi [0,1,2,4,5,6,11,12,13] []) [] overMi [(miR,qiz p)] [(15007,q5r (Get.miNear st))] none)
        (λst p=>p=Get.outAt st++[code.eraseIdx (st.intOf 5).toNat])
        (λ_ _=>0)]
def anMiHeard (e:Cod.Ear):List (Nat×Ann) :=
 [annX 2000005 (q03)
    (λst p=>st.hd (keepMi [] [(77,q7g)]) [(5,.c (.one (.val (.sl (.one (.int .i64))) (e.near (st.intOf 1)))))] overMi [(miR,qiz (Get.outAt st))] [(15007,q5r p)] none)
    (λ_ p=>q0a e p)
    (λ_ _=>0)]
def anMi (e:Cod.Ear) (code:List Int):Nat→List (Nat×Ann):=λf =>
 bif Qb f 89 then anMiIter e code
 else bif Qb f 92 then anMiHeard e
 else []
def anMist (e:Cod.Ear):List (Nat×Ann) :=
 [annX 2000002 Unit (λst _=>st.hd { live:=[2,3],sav:=[],box:=[3] } [(8,.c (.one (.ptr 15010 0))),(9,.c (.one (.val .bool (Snd.q0c e.lang e.ws&&Snd.q0h e.c))))] [(15010,[.val .str e.lang,.val (.sl (.one .str)) e.ws,.mref 15007,.val (.sl kCf) e.c])] [] [(15007,q5r [])] none) (λ_ _=>True) (λ_ _=>0)]
end Go.Proofs.YtlfaaoalgcbcoaaGreatDoor
namespace Go.Proofs.YtlfaaoalgcbcoaaGreatDoor
open Go.RowKit
attribute [local go_sem] q28 q1o q1v
theorem letter_nat (c:UInt8):Lx.q1h c=((decide ((97:Int)≤c.toNat)&&decide ((c.toNat:Int)≤122))||(decide ((65:Int)≤c.toNat)&&decide ((c.toNat:Int)≤90))):=by
 have h:=Lx.q4w (λc=>Lx.q1h c==((decide ((97:Int)≤c.toNat)&&decide ((c.toNat:Int)≤122))||(decide ((65:Int)≤c.toNat)&&decide ((c.toNat:Int)≤90)))) (by decide +kernel) c
 rwa [beq_iff_eq] at h
theorem digit_nat (c:UInt8):Lx.isDigit c=(decide ((48:Int)≤c.toNat)&&decide ((c.toNat:Int)≤57)):=by
 have h:=Lx.q4w (λc=>Lx.isDigit c==(decide ((48:Int)≤c.toNat)&&decide ((c.toNat:Int)≤57))) (by decide +kernel) c
 rwa [beq_iff_eq] at h
theorem word_nat (c:UInt8):Lx.isWord c=(Lx.q1h c||(Lx.isDigit c||((c.toNat:Int)==95))):=by
 have h:=Lx.q4w (λc=>Lx.isWord c==(Lx.q1h c||(Lx.isDigit c||((c.toNat:Int)==95)))) (by decide +kernel) c
 rwa [beq_iff_eq] at h
theorem qav (c:UInt8) (w:World):Calls Tryz.prog 107 #[.int .u8 c.toNat] w λe w'=>e=.returned (.bool (Lx.q1h c))∧w'=w:=by
 rw [letter_nat];generalize (c.toNat:Int)=x;by_cases h1:(97:Int)≤x <;> by_cases h2:x≤122 <;> by_cases h3:(65:Int)≤x <;> by_cases h4:x≤90 <;> first | (exfalso;omega) | skip
 all_goals
  simp only [h1,h2,h3,h4,decide_true,decide_false,Bool.and_true,Qe,Bool.or_true,Bool.or_false,Qa,Qg]
  go_enter Tryz.func107,Tryz.ntmps107
  go_wp2
  go_ret
  exact ⟨rfl,rfl⟩
theorem qmm (c:UInt8) (w:World):Calls Tryz.prog 133 #[.int .u8 c.toNat] w λe w'=>e=.returned (.bool (Lx.isDigit c))∧w'=w:=by
 rw [digit_nat];generalize (c.toNat:Int)=x;by_cases h1:(48:Int)≤x <;> by_cases h2:x≤57 <;> first | (exfalso;omega) | skip
 all_goals
  simp only [h1,h2,decide_true,decide_false,Bool.and_true,Qe,Qa,Qg]
  go_enter Tryz.func133,Tryz.ntmps133
  go_wp2
  go_ret
  exact ⟨rfl,rfl⟩
theorem rword_any (c:UInt8) (w:World):Calls Tryz.prog 106 #[.int .u8 c.toNat] w λe w'=>e=.returned (.bool (Lx.isWord c))∧w'=w:=by
 rw [word_nat];cases hl:Lx.q1h c
 ·cases hd:Lx.isDigit c
  ·rcases Bool.eq_false_or_eq_true ((c.toNat:Int)==95) with h5 | h5
   all_goals
    rw [h5]
    go_enter Tryz.func106,Tryz.ntmps106
    go_wp2_with fail
    refine (qav c _).mono ?_;rintro e w' ⟨rfl,rfl⟩;rw [hl]
    go_wp2_with fail
    refine (qmm c _).mono ?_;rintro e w' ⟨rfl,rfl⟩;rw [hd]
    go_wp2
    go_ret
    exact ⟨rfl,rfl⟩
  ·go_enter Tryz.func106,Tryz.ntmps106
   go_wp2_with fail
   refine (qav c _).mono ?_;rintro e w' ⟨rfl,rfl⟩;rw [hl]
   go_wp2_with fail
   refine (qmm c _).mono ?_;rintro e w' ⟨rfl,rfl⟩;rw [hd]
   go_wp2
   go_ret
   exact ⟨rfl,rfl⟩
 ·go_enter Tryz.func106,Tryz.ntmps106
  go_wp2_with fail
  refine (qav c _).mono ?_;rintro e w' ⟨rfl,rfl⟩;rw [hl]
  go_wp2
  go_ret
  exact ⟨rfl,rfl⟩
end Go.Proofs.YtlfaaoalgcbcoaaGreatDoor
namespace Go.Proofs.YtlfaaoalgcbcoaaGreatDoor
open Go.RowKit
attribute [local go_sem] q28 q1o q1v Later.cell Later.frozen wrap64_nat wrap64_add wrap64_succ
set_option maxRecDepth 100000 in
set_option maxHeartbeats 1000000 in
theorem rname_any (s:ByteArray) (w:World) (hs:s.size≤9223372036854775807):Calls Tryz.prog 56 #[.string s] w λe w'=>e=.returned (.bool (Lx.q0v s.data.toList))∧w'=w:=by
 go_enter Tryz.func56,Tryz.ntmps56
 go_wp2
 go_loop [3] (λi=>∃ k:Nat,k≤s.size∧i=.int .i64 k∧s.data.toList.all Lx.isWord=(s.data.toList.drop k).all Lx.isWord) (λi=>s.size-(intOf i).toNat)
 case atStart=>exact ⟨0,by omega,rfl,rfl⟩
 case round =>
  obtain ⟨k,hk,rfl,hc⟩:=hrel;have HC:=Q8 hc;clear hc;by_cases hlt:k<s.size
  ·have hd:=q3n s k hlt
   have HD:=Q8 hd;clear hd;have hb:s[k].toNat<256:=Qh s[k]
   go_wp2_with fail
   refine (rword_any s[k] _).mono ?_;rintro e w' ⟨rfl,rfl⟩;cases hwd:Lx.isWord s[k]
   ·have HWD:=Q8 hwd
    clear hwd
    go_wp2
    go_ret
    refine ⟨?_,rfl⟩;refine q3o ?_;unfold Lx.q0v;rw [HC.out,HD.out,List.all_cons,HWD.out];rfl
   ·have HWD:=Q8 hwd
    clear hwd
    go_wp2
    go_round
    case rel =>
     refine ⟨k+1,by omega,by go_num,?_⟩
     rw [HC.out,HD.out,List.all_cons,HWD.out];rfl
    case measure=>simp [intOf];omega
  ·have hd:s.data.toList.drop k=[]:=Q6 (by rw [← q0r];omega)
   have hall:s.data.toList.all Lx.isWord=true:=by rw [HC.out,hd];rfl
   have HA:=Q8 hall;have HSL:=Q8 (q0r s);clear hd hall HC;by_cases h0:0<s.size
   ·by_cases h24:s.size≤24
    ·have hdg:=q3n s 0 h0
     rw [List.drop_zero] at hdg;have HD:=Q8 hdg;clear hdg;have hb:s[0].toNat<256:=Qh s[0]
     go_wp2_with fail
     refine (qav s[0] _).mono ?_;rintro e w' ⟨rfl,rfl⟩;have hfin:Lx.q0v s.data.toList=Lx.q1h s[0]:=by
      have h1:decide (0<s.data.toList.length)=true:=by rw [decide_eq_true_eq,← HSL.out];exact h0
      have h2:decide (s.data.toList.length≤24)=true:=by rw [decide_eq_true_eq,← HSL.out];exact h24
      unfold Lx.q0v;rw [HA.out,h1,h2,HD.out];rfl
     have HF:=Q8 hfin;clear hfin
     go_wp2
     go_ret
     exact ⟨q3o HF.out.symm,rfl⟩
    ·have hfin:Lx.q0v s.data.toList=false:=by
      have h2:decide (s.data.toList.length≤24)=false:=by rw [decide_eq_false_iff_not,← HSL.out];exact h24
      unfold Lx.q0v;rw [HA.out,h2];simp
     have HF:=Q8 hfin;clear hfin
     go_wp2
     go_ret
     exact ⟨q3o HF.out.symm,rfl⟩
   ·have hfin:Lx.q0v s.data.toList=false:=by
     have h1:decide (0<s.data.toList.length)=false:=by rw [decide_eq_false_iff_not,← HSL.out];exact h0
     unfold Lx.q0v;rw [HA.out,h1];simp
    have HF:=Q8 hfin;clear hfin
    go_wp2
    go_ret
    exact ⟨q3o HF.out.symm,rfl⟩
end Go.Proofs.YtlfaaoalgcbcoaaGreatDoor
namespace Go.Proofs.YtlfaaoalgcbcoaaGreatDoor
open Go.RowKit R
abbrev q9o:CK:=.one .str
abbrev ckIntR:CK:=.one (.int .i64)
def cNameR:Con:=.of 56 [q9o] [.one .bool] (λs=>Q0 s≤1000000) Lx.q0v
theorem qe4:cNameR.Holds Tryz.prog:=qmx Tryz.func56 (by kernel_rfl) (by kernel_rfl) λs w h=>(rname_any (bs s) w (by rw [qer];omega)).mono λe w' ⟨he,hw⟩=>⟨he,hw▸q06 w⟩
def cRLet:Con:=.of 95 [q9o,ckIntR,ckIntR] [.one .bool] (λp=>Q0 p.1≤1000000) (λp=>Snd.q0b p.1 p.2.1 p.2.2)
def anRLet (s:List UInt8):List (Nat×Ann):=[ann 0 Nat [0,1,2] (λk=>[(7,R.int .i64 k)]) (λk=>k≤s.length∧(s.take k).all Snd.letB=true) (λk=>s.length-k)]
def qe9:Con:=.of 64 [ckWl] [.one .bool] q0j (λp=>Snd.q0c p.1 p.2)
def anRValid (ws:List (List UInt8)):List (Nat×Ann) :=
 [ann 0 Nat [1] (λk=>[(3,R.int .i64 k)]) (λk=>k≤ws.length∧(ws.take k).all (λs=>Snd.q0b s 3 8)=true∧Snd.rising (ws.take k)=true) (λk=>ws.length-k)]
def qcr:Con:=.of 46 [ckCf] [.one .bool] q0n Snd.q0h
def anRProper (c:CfP):List (Nat×Ann) :=
  [ann 0 Nat [0] (λk=>[(3,R.int .i64 k)]) (λk=>k≤c.length∧(c.take k).all Snd.okC=true∧Snd.fresh (c.take k)=true) (λk=>c.length-k),
   annS 2 Nat [0,3] (λk=>[(4,R.int .i64 k)]) (λ_=>[]) (λst k=>k≤(st.intOf 3).toNat∧(c.take k).any (Snd.same (c.getD (st.intOf 3).toNat ([],[])))=false) (λst k=>(st.intOf 3).toNat-k)]
def cRRep:Con:=.of 151 [q9o,q9o,q9o,q9o] [.one .bool] (λp=>Q0 p.1≤1000000∧Q0 p.2.2.1≤1000000∧Q0 p.2.2.2≤1000000) (λp=>Snd.repB p.1 p.2.1 p.2.2.1 p.2.2.2)
def anRRep (x y a b:List UInt8):List (Nat×Ann) :=
 [ann 0 Nat [0,1,2,3] (λk=>[(9,R.int .i64 k)]) (λk=>k≤x.length+1∧∀ j,j<k→Snd.q7n x y a b j=false) (λk=>x.length+1-k)]
def qlc:Con:=.of 126 [ckCf,q9o,q9o] [.one .bool] (λp=>q0n p.1∧Q0 p.2.1≤1000000∧Q0 p.2.2≤1000000) (λp=>Snd.q29 p.1 p.2.1 p.2.2)
def anRSounds (c:CfP) (x y:List UInt8):List (Nat×Ann) :=
 [ann 0 Nat [0,1,2] (λk=>[(7,R.int .i64 k)]) (λk=>k≤c.length∧(c.take k).any (Snd.hitB x y)=false) (λk=>c.length-k)]
def cRNear:Con:=.of 96 [ckWl,ckCf,q9o] [q2h,ckIntR] (λp=>q0j p.1∧q0n p.2.1∧Q0 p.2.2≤1000000) (λp=>Snd.q10 p.1.1 p.1.2 p.2.1 p.2.2)
def anRNear (ws:List (List UInt8)) (c:CfP) (x:List UInt8):List (Nat×Ann) :=
 [annR 0 Nat [1,2,3] (λk=>[(8,ownAV 41),(9,R.int .i64 k)]) (λk=>[(41,iRow (Snd.q3f ws c x k))]) (λk=>k≤ws.length) (λk=>ws.length-k)]
def cOn07:Con:=.of 35 [ckPt] [q2p] (λ_=>True) Cod.onB
def cDist07:Con:=.of 85 [ckPt,ckPt] [q57] (λ_=>True) (λp=>Cod.q5g p.1 p.2)
end Go.Proofs.YtlfaaoalgcbcoaaGreatDoor
namespace Go.Proofs.YtlfaaoalgcbcoaaGreatDoor
open Go.RowKit
namespace R
def Get.slOf (fs:Kds) (t:Nat) (st:St):List fs.Pay:=match st.get t with
 | .c (.one (.val (.sl fs') xs))=>match fs'.deq fs with
  | some ⟨h⟩=>q3r h xs
  | none=>[]
 | _=>[]
end R
open R
abbrev kLs:Kds:=.one (.sl kIs)
abbrev ckLLs:CK:=.one (.sl kLs)
abbrev q05 (l:WlP) (c:CfP):Cod.Ear:=⟨l.1,l.2,c⟩
def datL (l:List (List Int)):AV:=.c (.one (.val (.sl kIs) l))
def qcb:Con:=.of 21 [ckWl,q2h] [q2p] (λp=>q0j p.1∧Q0 p.2≤1000000) (λp=>Cod.q0q p.1.1 p.1.2 p.2)
def anQValid (n:Nat) (code:List Int):List (Nat×Ann) :=
 [annX 0 Nat (λst k=>st.hd { live:=[1,2],sav:=[],box:=[2] } [(5,R.int .i64 k)] [] [] [] none) (λ_ k=>k≤code.length∧Cod.inB n (code.take k)=true) (λ_ k=>code.length-k)]
def cQIn:Con:=.of 108 [q6k,q2h] [q2p] (λp=>q2c p.1) (λp=>List.any p.1 λy=>y==p.2)
def anQIn (l:List (List Int)) (x:List Int):List (Nat×Ann) :=
 [annX 0 Nat (λst k=>st.hd { live:=[0,1],sav:=[],box:=[] } [(5,R.int .i64 k)] [] [] [] none) (λ_ k=>k≤l.length∧(l.take k).any (λy=>y==x)=false) (λ_ k=>l.length-k)]
def cQPut:Con:=.of 97 [q6k,q2h,q2h] [q6k] (λp=>q2c p.1∧Q0 p.2.1≤1000000) (λp=>Cod.putR p.1 p.2.1 p.2.2)
def anQPut (l:List (List Int)) (x:List Int):List (Nat×Ann) :=
 [annX 0 Nat (λst k=>st.hd { live:=[0,1,2],sav:=[],box:=[] } [(7,R.int .i64 k)] [] [] [] none) (λ_ k=>k≤l.length∧(l.take k).all (λy=>Cod.q3u y x)=true) (λ_ k=>l.length-k)]
def q41 (l:WlP) (c:CfP):Prop:=q0j l∧q0n c∧Q0 l.2≤1000
def qec (l:WlP) (code:List Int):Prop:=code.length≤1000∧Cod.inB l.2.length code=true
def cQMis:Con:=.of 47 [ckWl,ckCf,q2h] [q6k] (λp=>q41 p.1 p.2.1∧qec p.1 p.2.2) (λp=>Cod.q1y ((q05 p.1 p.2.1).miss p.2.2))
def anQMis (l:WlP) (c:CfP) (code:List Int):List (Nat×Ann) :=
  [annX 0 (Nat×List (List Int)) (λst p=>st.hd { live:=[1,2,3],sav:=[],box:=[3] } [(7,datL p.2),(8,R.int .i64 p.1)] [] [] [] none)
    (λ_ p=>p.1≤code.length∧p.2.length≤p.1*1002∧Cod.q4h p.2 (Cod.upTo (q05 l c) code p.1)) (λ_ p=>code.length-p.1),
   annX 2 (Nat×List (List Int)) (λst p=>st.hd { live:=[1,2,3,8,9,10],sav:=[],box:=[3] } [(7,datL p.2),(11,R.int .i64 p.1)] [] [] [] none)
    (λst p=>p.1≤((q05 l c).near (code.getD (st.intOf 8).toNat 0)).length∧p.2.length≤(st.intOf 8).toNat*1002+p.1∧Cod.q4h p.2 (Cod.q5b (q05 l c) code (st.intOf 8).toNat p.1)) (λst p=>((q05 l c).near (code.getD (st.intOf 8).toNat 0)).length-p.1),
   behindAt 12 (List (List Int)) (λst m=>st.hd { live:=[1,2,3,8],sav:=[],box:=[3] } [(7,datL m)] [] [] [] none) (λst m=>m=Cod.putR (Get.slOf kIs 7 st) (code.take (st.intOf 8).toNat++code.drop ((st.intOf 8).toNat+1)) code)]
def qkt:Con:=.of 57 [q5i] [q2p] (λ_=>True) Cod.q1g
def cQNear:Con:=.of 109 [q5i,q5i] [q2p] (λ_=>True) (λp=>Cod.q0o p.1 p.2)
def cQFits:Con:=.of 59 [q5i,q6k,q5i,q6k] [q2p] (λp=>Q0 p.1.2.1≤1000000∧q2c p.2.1∧q2c p.2.2.2) (λp=>Cod.q7i p.1 p.2.1 p.2.2.1 p.2.2.2)
def anQFits (a b:List (List Int)):List (Nat×Ann) :=
 [annX 0 Nat (λst k=>st.hd { live:=[1,3,4,6],sav:=[],box:=[4,6] } [(9,R.int .i64 k)] [] [] [] none) (λ_ k=>k≤a.length∧(a.take k).all (λz=>!(b.any λw=>w==z))=true) (λ_ k=>a.length-k)]
def SmallB (l:WlP) (book:List Cod.Giv):Prop:=book.length≤1000∧∀ g∈book,qec l g.2.1
def cQAll:Con:=.of 58 [ckWl,ckCf,q7s] [ckLLs] (λp=>q41 p.1 p.2.1∧SmallB p.1 p.2.2) (λp=>Cod.allM (q05 p.1 p.2.1) p.2.2)
def anQAll (l:WlP) (c:CfP) (book:List Cod.Giv):List (Nat×Ann) :=
  [annX 0 Nat (λst k=>st.hd { live:=[1,2,3],sav:=[],box:=[3] } [(7,ownAV 25),(8,R.int .i64 k)] [] [(25,⟨41,kLs,Cod.allM (q05 l c) (book.take k)⟩)] [] none) (λ_ k=>k≤book.length) (λ_ k=>book.length-k),
   pureAt 5]
def FewBk (book:List Cod.Giv):Prop:=book.length≤1000∧∀ g∈book,g.1.length≤1000000∧g.2.1.length≤1000
def qfa:Con:=.of 24 [ckWl,ckCf,q7s] [q2p] (λp=>q41 p.1 p.2.1∧FewBk p.2.2) (λp=>(q05 p.1 p.2.1).proper p.2.2)
abbrev giv0:Cod.Giv:=([],[],false,0,0)
def twoTo (e:Cod.Ear) (book:List Cod.Giv) (i j:Nat):Prop:=∀ k,k<j→e.two (book.getD k giv0) (book.getD i giv0)
def anQProper (l:WlP) (c:CfP) (book:List Cod.Giv):List (Nat×Ann) :=
  [annX 0 Nat (λst k=>st.hd { live:=[1,2,3],sav:=[],box:=[3] } [(7,R.int .i64 k)] [] [] [] none) (λ_ k=>k≤book.length∧∀ g∈book.take k,Cod.okG (q05 l c) g=true) (λ_ k=>book.length-k),
   annX 2 Nat (λst k=>st.hd { live:=[1,2,3,8],sav:=[],box:=[3] } [(9,R.int .i64 k)] [] [] [] none) (λ_ k=>k≤book.length∧∀ i,i<k→twoTo (q05 l c) book i i) (λ_ k=>book.length-k),
   annX 4 Nat (λst j=>st.hd { live:=[1,2,3,8,9],sav:=[],box:=[3] } [(10,R.int .i64 j)] [] [] [] none) (λst j=>j≤(st.intOf 9).toNat∧twoTo (q05 l c) book (st.intOf 9).toNat j) (λst j=>(st.intOf 9).toNat-j)]
def cGive:Con:=.of 18 [ckWl,ckCf,q7s,q5i,q57] [q5i,.one (.int .i64)] (λp=>q0j p.1∧q0n p.2.1∧q3v p.2.2.1∧p.2.2.2.1.1.length≤1000∧p.2.2.2.1.2.1.length≤1000000) (λp=>Cod.Ear.q0p ⟨p.1.1,p.1.2,p.2.1⟩ p.2.2.1 p.2.2.2.1 p.2.2.2.2)
noncomputable def inlGi:List (Nat×Func):=inlCo++[(53,Tryz.f53),(55,Tryz.f55)]
noncomputable def kitGi:Kit:={ cons:=[qil,cPlaced,q8l,cKey.lent,qeh,qj0,cNear,cNearG.lent],ns:=[nClone],os:=[qiw],inls:=inlGi }
def q7o (l:List Int):Row:=⟨3,.one (.int .i64),l⟩
namespace R
def thawC (st:St):Cell→Cell
 | .own r=>match st.row r with
  | some x=>.val (.sl x.fs) x.xs
  | none=>.any
 | c=>c
def Get.boxOfR (ks:Kds) (b:Nat) (st:St):ks.Pay:=match st.box b with
 | some cs=>match q14 ks (cs.map (thawC st)) with
  | some p=>p
  | none=>ks.dflt
 | none=>ks.dflt
def Get.cloOfR (ks:Kds) (t:Nat) (st:St):ks.Pay:=match st.get t with
 | .c (.one (.clo _ _ [(b,_)]))=>Get.boxOfR ks b st
 | _=>ks.dflt
def Get.rowI (r:Nat) (st:St):List Int:=match st.row r with
 | some y=>match y.fs.deq (.one (.int .i64)) with
  | some ⟨h⟩=>q3r h y.xs
  | none=>[]
 | none=>[]
end R
def R.Get.gAtR (F:Fr) (st:St):Cod.Giv:=Get.boxOfR kGiv (F.T+3) st
def R.q9d (o:Nat) (st:St) (m:q03):List (Nat×MRow):=[(lisO o+7,q5r m),(o+28,q43 (Get.mapOf q6u (.one .bool) (o+28) st))]
def upG:Up:={ o:=19000,fr:=[(75,[3,10,11,13,33,34,35,61]),(76,[2,4,5,8,10])],box:=[19003,19013,5,8,10],maps:=[] }
def upL:Up:={ o:=19000,fr:=[(76,[5,8,10,12])],box:=[5,8,10],maps:=[] }
def frG:Fr:={ T:=66000,n:=53,live:=[4],d:=33 }
abbrev giR:Nat:=61
def GiveAt (e:Cod.Ear) (book:q13) (g:Cod.Giv) (s k:Nat) (nr:q03) (l:List Int):Prop:=k<e.ws.length ^ s∧q0a e nr∧l=Cod.dig e.ws.length s k∧∀ j,j<k→e.takes book (Cod.q0k g (Cod.dig e.ws.length s j))=false
def anGive (e:Cod.Ear) (book:q13) (g:Cod.Giv) (s:Nat):List (Nat×Ann) :=
  [annX 1 (Nat×q03×List Int)
        (λst p=>st.hd { live:=[5,8,10,12],sav:=[],box:=[5,8,10,lisO 19000+10,19031] } [] [] [(giR,q7o p.2.2)] (q9d 19000 st p.2.1) (some (q1b (Get.q19 st))))
        (λ_ p=>GiveAt e book g s p.1 p.2.1 p.2.2)
        (λ_ p=>e.ws.length ^ s-p.1),
   annX 2000010 q03
        (λst p=>st.hd { live:=[5,8,10,12],sav:=[],box:=[5,8,10,lisO 19000+10,19031] } [] [] [(giR,q7o (Get.rowI giR st))] (q9d 19000 st p) (some (q1b (Get.q19 st))))
        (λst p=>q0a e p∧e.takes book (Cod.q0k g (Get.rowI giR st))=false)
        (λ_ _=>0)]
def qb0 (n:Int) (l:List Int) (p:Nat) (r:List Int):Prop:=p≤l.length∧r=l.take (l.length-p)++List.replicate p 0∧(l.drop (l.length-p)).all (λd=>decide (n≤d+1))=true
def anNext:List (Nat×Ann) :=
 [annX 0 (Nat×List Int)
    (λst p=>st.hd { live:=[0,1,8],sav:=savK 0 [(76,[5,8,10,12])],box:=[5,8,10,lisO 19000+10,19031] } [(9,R.int .i64 p.1)] [] [(giR,q7o p.2)] (q9d 19000 st (Get.q4q upL st)) (some (q1b (Get.q19 st))))
    (λst p=>qb0 (st.intOf 1) (Get.rowI giR st) p.1 p.2)
    (λst p=>(Get.rowI giR st).length-p.1)]
def anIterG (e:Cod.Ear):List (Nat×Ann) :=
  [annX 0 (Nat×q03×q02×q04)
        (λst p=>bif st.off.beq frG.it then st.hd (upL.keep frG [0,1,2,4,11,12] []) [(13,R.int .i64 p.1)] [] [(giR,q7o (Get.rowI giR st))] (q9d 19000 st p.2.1) (some (q1b (Get.q19 st)))
           else bif st.off.beq (frT 19000).it then st.hd (upG.keep (frT 19000) [0,1,2,4,11,12] []) [(13,R.int .i64 p.1)] [] [] (q3y upG st p.2.1) (some (q1b (Get.q19 st)))
           else st.hd (upG.keep (frP 19000) [0,1,2,4,11,12] []) [(13,R.int .i64 p.1)] [] [] (((frP 19000).T+14,q43 p.2.2.1)::q3y upG st p.2.1) (some (q1b p.2.2.2)))
        (λst p=>bif st.off.beq frG.it then p.1≤(Get.gAtR frG st).2.1.length∧q0a e p.2.1∧(e.q0i (Get.gAtR frG st).2.1 p.1 0).all (q0x (Get.q6o upG st) (Get.q19 st) (Get.gAtR frG st))=true
           else bif st.off.beq (frT 19000).it then p.1≤(Get.gAt (frT 19000) st).2.1.length∧q0a e p.2.1∧(e.q0i (Get.gAt (frT 19000) st).2.1 p.1 0).all (q0x (Get.q6o upG st) (Get.q19 st) (Get.gAt (frT 19000) st))=true
           else p.1≤(Get.gAt (frP 19000) st).2.1.length∧q0a e p.2.1∧q0w (Get.seenAt (frP 19000) st) (Get.q19 st) (Get.gAt (frP 19000) st) (e.q0i (Get.gAt (frP 19000) st).2.1 p.1 0) p.2.2.1 p.2.2.2)
        (λst p=>bif st.off.beq frG.it then (Get.gAtR frG st).2.1.length-p.1 else bif st.off.beq (frT 19000).it then (Get.gAt (frT 19000) st).2.1.length-p.1 else (Get.gAt (frP 19000) st).2.1.length-p.1),
   annX 2 (Nat×q02×q04)
        (λst p=>bif st.off.beq frG.it then st.hd (upL.keep frG [0,1,2,4,5,6,11,12,13,20,21] []) [(22,R.int .i64 p.1)] [] [(giR,q7o (Get.rowI giR st))] (q9d 19000 st (Get.q4q upG st)) (some (q1b (Get.q19 st)))
           else bif st.off.beq (frT 19000).it then st.hd (upG.keep (frT 19000) [0,1,2,4,5,6,11,12,13,20,21] []) [(22,R.int .i64 p.1)] [] [] (q3y upG st (Get.q4q upG st)) (some (q1b (Get.q19 st)))
           else st.hd (upG.keep (frP 19000) [0,1,2,4,5,6,11,12,13,20,21] []) [(22,R.int .i64 p.1)] [] [] (((frP 19000).T+14,q43 p.2.1)::q3y upG st (Get.q4q upG st)) (some (q1b p.2.2)))
        (λst p=>bif st.off.beq frG.it then p.1≤(e.near (st.intOf 6)).length∧(q0y e (Get.gAtR frG st).2.1 (st.intOf 5).toNat p.1).all (q0x (Get.q6o upG st) (Get.q19 st) (Get.gAtR frG st))=true
           else bif st.off.beq (frT 19000).it then p.1≤(e.near (st.intOf 6)).length∧(q0y e (Get.gAt (frT 19000) st).2.1 (st.intOf 5).toNat p.1).all (q0x (Get.q6o upG st) (Get.q19 st) (Get.gAt (frT 19000) st))=true
           else p.1≤(e.near (st.intOf 6)).length∧q0w (Get.seenAt (frP 19000) st) (Get.q19 st) (Get.gAt (frP 19000) st) (q0y e (Get.gAt (frP 19000) st).2.1 (st.intOf 5).toNat p.1) p.2.1 p.2.2)
        (λst p=>(e.near (st.intOf 6)).length-p.1),
   annX 2000010 (q02×q04)
        (λst p=>bif st.off.beq frG.it then st.hd (upL.keep frG [0,1,2,4,5,6,11,12,13] []) [] [] [(giR,q7o (Get.rowI giR st))] (q9d 19000 st (Get.q4q upG st)) (some (q1b (Get.q19 st)))
           else bif st.off.beq (frT 19000).it then st.hd (upG.keep (frT 19000) [0,1,2,4,5,6,11,12,13] []) [] [] [] (q3y upG st (Get.q4q upG st)) (some (q1b (Get.q19 st)))
           else st.hd (upG.keep (frP 19000) [0,1,2,4,5,6,11,12,13] []) [] [] [] (((frP 19000).T+14,q43 p.1)::q3y upG st (Get.q4q upG st)) (some (q1b p.2)))
        (λst p=>bif st.off.beq frG.it then q0x (Get.q6o upG st) (Get.q19 st) (Get.gAtR frG st) ((Get.gAtR frG st).2.1.eraseIdx (st.intOf 5).toNat)=true
           else bif st.off.beq (frT 19000).it then q0x (Get.q6o upG st) (Get.q19 st) (Get.gAt (frT 19000) st) ((Get.gAt (frT 19000) st).2.1.eraseIdx (st.intOf 5).toNat)=true
           else q0w (Get.seenAt (frP 19000) st) (Get.q19 st) (Get.gAt (frP 19000) st) [(Get.gAt (frP 19000) st).2.1.eraseIdx (st.intOf 5).toNat] p.1 p.2)
        (λ_ _=>0)]
def anHeardG (e:Cod.Ear):List (Nat×Ann) :=
  [annX 2000005 (q03)
        (λst p=>bif st.off.beq ((frG.it+21)*1000) then st.hd (upL.keep frG [] [(77,q7g)]) [(5,.c (.one (.val (.sl (.one (.int .i64))) (e.near (st.intOf 1)))))] [] [(giR,q7o (Get.rowI giR st))] (q9d 19000 st p) (some (q1b (Get.q19 st)))
           else bif st.off.beq (((frT 19000).it+21)*1000) then st.hd (upG.keep (frT 19000) [] [(77,q7g)]) [(5,.c (.one (.val (.sl (.one (.int .i64))) (e.near (st.intOf 1)))))] [] [] (q3y upG st p) (some (q1b (Get.q19 st)))
           else st.hd (upG.keep (frP 19000) [] [(77,q7g)]) [(5,.c (.one (.val (.sl (.one (.int .i64))) (e.near (st.intOf 1)))))] [] [] (((frP 19000).T+14,q43 (Get.seenAt (frP 19000) st))::q3y upG st p) (some (q1b (Get.q19 st))))
        (λ_ p=>q0a e p)
        (λ_ _=>0)]
abbrev offI:Nat:=54008000
abbrev offT:Nat:=66001752008000
def anFindG (door:List UInt8):List (Nat×Ann) :=
  [annX 0 (Nat)
        (λst p=>bif st.off.beq offI then st.hd { live:=[0,1,7],sav:=savK 0 [(9,[]),(76,[2,4,5,8,10,12])],box:=[5,8,10,lisO 19000+10,19031] } [(8,R.int .i64 p)] [] [] (q9d 19000 st (Get.q4q upL st)) (some (q1b (Get.q19 st)))
           else bif st.off.beq offT then st.hd (upL.keep frG [0,1,7] [(9,[]),(frG.n,[2,3,4,43]),(77,q7g)]) [(8,R.int .i64 p)] [] [(giR,q7o (Get.rowI giR st))] (q9d 19000 st (Get.q4q upL st)) (some (q1b (Get.q19 st)))
           else st.hd (upG.keep (frT 19000) [0,1,7] [(9,[]),((frT 19000).n,[2,3,4,43]),(77,q7g)]) [(8,R.int .i64 p)] [] [] (q3y upG st (Get.q4q upG st)) (some (q1b (Get.q19 st))))
        (λst p=>bif st.off.beq offI then p≤(Get.slOf kGiv 0 st).length∧((Get.slOf kGiv 0 st).take p).any (λo=>o.1==door)=false
           else bif st.off.beq offT then p≤(Get.entOf kGiv 0 st).length∧((Get.entOf kGiv 0 st).take p).any (λo=>Cod.q0o o (Get.cloOfR kGiv 1 st))=false
           else p≤(Get.entOf kGiv 0 st).length∧((Get.entOf kGiv 0 st).take p).any (λo=>Cod.q0o o (Get.cloOf kGiv 1 st))=false)
        (λst p=>bif st.off.beq offI then (Get.slOf kGiv 0 st).length-p else (Get.entOf kGiv 0 st).length-p)]
def anGi (e:Cod.Ear) (book:q13) (g:Cod.Giv):Nat→List (Nat×Ann):=λf =>
 bif Qb f 49 then anShelve upG e book
 else bif Qb f 89 then anIterG e
 else bif Qb f 92 then anHeardG e
 else bif Qb f 84 then anFindG g.1
 else bif Qb f 55 then anNext
 else []
abbrev ckErr1:CK:=.one (.int .i64)
def cJoinS:Con:=.of 48 [.one (.sl (.one .str)),ckStr1] [ckStr1] (λp=>Q0 p.1≤1000000∧(Q7 p.1 p.2).length≤1000000) (λp=>Q7 p.1 p.2)
theorem joinS_holds:cJoinS.Holds Tryz.prog:=by
 refine ⟨⟨⟨_,Tryz.func48,by kernel_rfl,by kernel_rfl⟩,λF' hF p r hr=>by injection hF with hF;subst hF;exact hr⟩,λp vs w S hS hp hvs=>?_⟩
 obtain ⟨xs,sep⟩:=p;obtain ⟨hp1,hp2⟩:=hp;have hp1:xs.length≤1000000:=hp1;have hp2:(Q7 xs sep).length≤1000000:=hp2;obtain ⟨v,v2,rfl,hv,hv2⟩:=two_args hvs;obtain rfl:v2=.string (bs sep):=hv2;obtain ⟨A,c,rfl,hc,hrow⟩:=hv;by_cases h0:xs.length=0
 ·obtain rfl:=List.eq_nil_of_length_eq_zero h0
  refine (Tryz.strings_Join_none A c (bs sep) w).mono ?_;rintro e w' ⟨rfl,rfl⟩;exact ⟨Q7 [] sep,_,rfl,rfl,rfl,Below.refl _ _⟩
 ·obtain ⟨g,off,rfl,hg,_,hcells⟩:=hrow (by show 0<xs.length;omega)
  have hm:(xs.map bs).map (λx:ByteArray=>x.data.toList)=xs:=by
   rw [List.map_map]
   conv=>rhs;rw [← List.map_id xs]
   apply List.map_congr_left
   intro x _;exact q2r x
  have hj:=Tryz.strings_Join g off c (xs.map bs) (bs sep) w (λj x hx=>by
   rw [List.getElem?_map] at hx;cases hx2:xs[j]? with
   | none=>rw [hx2] at hx;cases hx
   | some y =>
    rw [hx2] at hx;injection hx with hx;obtain ⟨u,hu,hr⟩:=hcells j y hx2;have hr:u=.string (bs y):=hr;have e:off+j*(Kds.one Kd.str).size=off+j:=by show off+j*1=_;omega
    rw [e] at hu;rw [hu,hr,← hx]) hg (by rw [Qc];omega) (by rw [Qc];exact hc) (by rw [hm,show (bs sep).data.toList=sep from q2r sep];omega)
  rw [hm,show (bs sep).data.toList=sep from q2r sep,Qc] at hj;refine hj.mono ?_;rintro e w' ⟨rfl,hb⟩;exact ⟨Q7 xs sep,_,rfl,rfl,rfl,hb⟩
theorem join_cons2 (x y:List UInt8) (r:List (List UInt8)) (sep:List UInt8):Q7 (x::y::r) sep=x++sep++Q7 (y::r) sep:=by
 simp [Q7,List.intercalate,List.intersperse]
def q6l (ws:List (List UInt8)) (code:List Int):List (List UInt8):=code.map λi=>ws.getD i.toNat []
theorem qlx (ws:List (List UInt8)):∀ code:List Int,Q7 (q6l ws code) [32]=Cod.q3w ws code
 | []=>rfl
 | [i]=>Lib.join_one _ _
 | i::j::r=>by
  show Q7 (ws.getD i.toNat []::ws.getD j.toNat []::q6l ws r) [32]=_;rw [join_cons2];have ih:=qlx ws (j::r);show _++_++Q7 (q6l ws (j::r)) [32]=_;rw [ih];rfl
def qiy:Con:=.of 16 [ckWl,q2h] [ckStr1,ckErr1] (λp=>q0j p.1∧Q0 p.2≤1000000) (λp=>Cod.q56 p.1.1 p.1.2 p.2)
def strRowC (ss:List (List UInt8)):Row:=⟨9,.one .str,ss⟩
def anText41 (ws:List (List UInt8)) (code:List Int):List (Nat×Ann) :=
 [annX 0 (Nat×List (List UInt8))
    (λst p=>st.hd { live:=[2,13,14],sav:=[],box:=[2] } [(6,.c (.one (.own 26))),(15,R.int .i64 p.1)] [] [(26,strRowC p.2)] [] none)
    (λ_ p=>p.1≤code.length∧p.2=q6l ws (code.take p.1))
    (λ_ p=>code.length-p.1)]
end Go.Proofs.YtlfaaoalgcbcoaaGreatDoor
namespace Go.Proofs.YtlfaaoalgcbcoaaGreatDoor
namespace Hea
abbrev Str:=List UInt8
end Hea
namespace Hea
end Hea
open Go.RowKit R
section
variable {κ:Cx} {w:World}
end
end Go.Proofs.YtlfaaoalgcbcoaaGreatDoor
namespace Go.Proofs.YtlfaaoalgcbcoaaGreatDoor
namespace Hea
end Hea
namespace Hea
end Hea
open Go.RowKit R
structure Hf where
 L:Nat
 F:Nat
 upL:List (Nat×List Nat)
 upF:List (Nat×List Nat)
 boxL:List Nat
namespace Hea
end Hea
open Go.Lib
end Go.Proofs.YtlfaaoalgcbcoaaGreatDoor
namespace Go.Proofs.YtlfaaoalgcbcoaaGreatDoor
open Go.RowKit R
end Go.Proofs.YtlfaaoalgcbcoaaGreatDoor

/-
  Several texts in one: ZrD, ZrE, ZrF, ZnB, ZnBb, ZnBc, LexScan, LexGap, IndexAny.
-/
import Derived.Test.YtednmlmllbkhhaaGreatDoorPN
import Derived.Test.YtednmlmllbkhhaaGreatDoorPB
import Derived.WalkSmall
import Derived.Laws.Runes
import Derived.Laws.RangeAny
import Derived.Lib.OthersKept
set_option linter.unusedVariables false
namespace Go.Proofs.YtednmlmllbkhhaaGreatDoor
open Go.RowKit R Geo.Zn Zl
theorem place_in {r:List P2} (hv:q05 r=true) (p:P2):(q1g r p=1↔q0w r p=true)∧(q1g r p=-1↔q0m r p=true):=by
 rw [Geo.place_eq (Geo.q7u hv) p];unfold q0w q0m;cases onI r p <;> by_cases h:q5s r p=0 <;> simp [h]
theorem place_where {r:List P2} (hv:q05 r=true) {p:P2} (ho:onB p=true):q1g r (dbl p)=q1i r p:=by
 rw [Geo.place_eq (Geo.q7u hv) (dbl p)];unfold q1i;rw [hv,ho];unfold q0w q0m;cases onI r (dbl p) <;> by_cases h:q5s r (dbl p)=0 <;> simp [h]
set_option maxRecDepth 100000 in
theorem rgNext_vc (r:List P2) (i:Int) (h:q9h.pre (r,i)) :
    ((-9223372036854775808:Int)≤i+(1:Int)∧i+(1:Int)≤(9223372036854775807:Int))∧(r.length:Int)≠(0:Int)∧((0:Int)≤(i+(1:Int)).tmod (r.length:Int)∧(i+(1 :
    Int)).tmod (r.length:Int)<(r.length:Int))∧r.getD ((i+(1:Int)).tmod (r.length:Int)).toNat ((0:Int),(0:Int))=rAt r (i.toNat+(1:Nat))
     := by
  obtain ⟨h1,h2,h3⟩:r.length≤1000∧0≤i∧i<(r.length:Int):=h;obtain ⟨k,rfl⟩:∃ k:Nat,i=(k:Int):=⟨i.toNat,by omega⟩
  rw [tm1];have hn:0<r.length:=by omega
  have ti:=q8k (k+1) hn;exact ⟨by omega,by omega,ti,rfl⟩
set_option maxRecDepth 100000 in
theorem rgSum_vc (r:List P2) (h:cRgSum.pre r) :
    (∃ (p':Nat),p'≤r.length∧((0:Int)=sumTo (twAt r) p'∧(0:Int)=(p':Int)∧r=r∧True)∧True∧True∧True∧True∧True∧True∧True∧True∧True)∧∀ (p:Nat),p ≤
    r.length→bif decide ((p:Int)<(r.length:Int)) then ((0:Int)≤(p:Int)∧(p:Int)<(r.length:Int))∧(r.length≤(1000:Nat)∧(0:Int)≤(p:Int)∧(p:Int) <
    (r.length:Int))∧((-9223372036854775808:Int)≤(r.getD (p:Int).toNat ((0:Int),(0:Int))).1*(rAt r ((p:Int).toNat+(1:Nat))).2∧(r.getD (p:Int).toNat ((0:Int),(0 :
    Int))).1*(rAt r ((p:Int).toNat+(1:Nat))).2≤(9223372036854775807:Int))∧((-9223372036854775808:Int)≤(rAt r ((p:Int).toNat+(1:Nat))).1*(r.getD (p:Int).toNat ((0 :
    Int),(0:Int))).2∧(rAt r ((p:Int).toNat+(1:Nat))).1*(r.getD (p:Int).toNat ((0:Int),(0:Int))).2≤(9223372036854775807:Int))∧((-9223372036854775808:Int)≤(r.getD
    (p:Int).toNat ((0:Int),(0:Int))).1*(rAt r ((p:Int).toNat+(1:Nat))).2-(rAt r ((p:Int).toNat+(1:Nat))).1*(r.getD (p:Int).toNat ((0:Int),(0:Int))).2 ∧
    (r.getD (p:Int).toNat ((0:Int),(0:Int))).1*(rAt r ((p:Int).toNat+(1:Nat))).2-(rAt r ((p:Int).toNat+(1:Nat))).1*(r.getD (p:Int).toNat ((0:Int),(0:Int))).2
    ≤ (9223372036854775807:Int))∧((-9223372036854775808:Int)≤sumTo (twAt r) p+((r.getD (p:Int).toNat ((0:Int),(0:Int))).1*(rAt r ((p:Int).toNat+(1:Nat))).2-(rAt r
    ((p:Int).toNat+(1:Nat))).1*(r.getD (p:Int).toNat ((0:Int),(0:Int))).2)∧sumTo (twAt r) p+((r.getD (p:Int).toNat ((0:Int),(0:Int))).1*(rAt r ((p:Int).toNat +
    (1:Nat))).2-(rAt r ((p:Int).toNat+(1:Nat))).1*(r.getD (p:Int).toNat ((0:Int),(0:Int))).2)≤(9223372036854775807:Int))∧((-9223372036854775808:Int)≤(p:Int) +
    (1:Int)∧(p:Int)+(1:Int)≤(9223372036854775807:Int))∧∃ (p':Nat),p'≤r.length∧r.length-p'<r.length-p∧(sumTo (twAt r) p+((r.getD (p:Int).toNat ((0:Int),(0
    : Int))).1*(rAt r ((p:Int).toNat+(1:Nat))).2-(rAt r ((p:Int).toNat+(1:Nat))).1*(r.getD (p:Int).toNat ((0:Int),(0:Int))).2)=sumTo (twAt r) p'∧(p:Int)+(1 :
    Int)=(p':Int)∧r=r∧True)∧True∧True∧True∧True∧True∧True∧True∧True∧True else sumTo (twAt r) p=q5y r
     := by
  obtain ⟨hl,hon⟩:r.length≤40∧r.all onB=true:=h;simp only [and_true,eq_self,and_self];refine ⟨⟨0,Nat.zero_le _,rfl,rfl⟩,λk hk=>bifP (λhb=>?_) λhb=>?_⟩
  · have hkl:k<r.length:=by have:=of_decide_eq_true hb;omega
    have hn:0<r.length:=by omega
    have o1:=q0x (q23 hon hn k);have o2:=q0x (q23 hon hn (k+1));have hB:∀ i,-(1073676289:Int)*2≤twAt r i∧twAt r i≤1073676289*2:=λi=>by
      have o1:=q0x (q23 hon hn i);have o2:=q0x (q23 hon hn (i+1));have m1:=q44 (m:=32767) (n:=32767) (a:=(rAt r i).1) (b:=(rAt r (i+1)).2) (by omega) (by omega) (by omega) (by omega)
      have m2:=q44 (m:=32767) (n:=32767) (a:=(rAt r (i+1)).1) (b:=(rAt r i).2) (by omega) (by omega) (by omega) (by omega)
      unfold twAt;omega
    have hs:=qca (f:=twAt r) (B:=2147352578) (λi=>by have:=hB i;omega) k
    have hs1:=qfe (twAt r) k;have e:twAt r k=(rAt r k).1*(rAt r (k+1)).2-(rAt r (k+1)).1*(rAt r k).2:=rfl;have hBk:=hB k;have m1:=q44 (m:=32767) (n:=32767) (a:=(rAt r k).1) (b:=(rAt r (k+1)).2) (by omega) (by omega) (by omega) (by omega)
    have m2:=q44 (m:=32767) (n:=32767) (a:=(rAt r (k+1)).1) (b:=(rAt r k).2) (by omega) (by omega) (by omega) (by omega)
    simp only [Int.toNat_natCast,at0 r hkl];rw [← e];have hkB:(k:Int)*2147352578≤40*2147352578:=Int.mul_le_mul_of_nonneg_right (by omega) (by decide)
    refine ⟨by omega,⟨by omega,by omega,by omega⟩,by omega,by omega,by omega,by omega,by omega,k+1,by omega,by omega,hs1.symm,by omega⟩
  · have:k=r.length:=by have:=of_decide_eq_false hb;omega
    subst this;rfl
set_option maxRecDepth 100000 in
theorem rgDouble_vc (x y:Int) (h:qc0.pre (x,y)) :
    True∧True∧(IntKind.i64.wrap ((2:Int)*x),IntKind.i64.wrap ((2:Int)*y))=dbl (x,y)
     := by
  have o:=q0x (show onB (x,y)=true from h);dsimp only at o;have w1:IntKind.i64.wrap (2*x)=2*x:=q3f (by unfold q5w;omega)
  have w2:IntKind.i64.wrap (2*y)=2*y:=q3f (by unfold q5w;omega)
  simp only [true_and];rw [w1,w2];rfl
set_option maxRecDepth 100000 in
theorem rgWhere_vc (r:List P2) (x y:Int) (h:qjm.pre (r,(x,y))) :
    r.length≤(1000:Nat)∧bif !q05 r then (-1:Int)=q1i r (x,y) else True∧bif !onB (x,y) then (-1:Int)=q1i r (x,y) else onB (x,y)=true∧(q0t r∧q0r (dbl (x,
    y)))∧q1g r (dbl (x,y))=q1i r (x,y)
     := by
  have h1:r.length≤1000:=h;simp only [true_and];have hW:q1i r (x,y)=if !q05 r||(!onB (x,y)||q0m r (dbl (x,y))) then -1 else if q0w r (dbl (x,y)) then 1 else 0:=rfl
  refine ⟨h1,bifP (λhr=>by rw [hW,hr];rfl) λhr=>bifP (λho=>?_) λho=>?_⟩
  · rw [hW,ho,Bool.true_or,Bool.or_true];rfl
  have hv:q05 r=true:=cast (Bool.not_eq_false' _) hr;have ho:onB (x,y)=true:=cast (Bool.not_eq_false' _) ho;have v:=q1q hv;refine ⟨ho,⟨⟨v.2.1,v.2.2⟩,qej ho⟩,?_⟩;rw [place_where hv ho]
set_option maxRecDepth 100000 in
theorem rgCrossed_vc (x y:List P2) (h:qaj.pre (x,y)) :
    (∃ (p':Nat),(p'≤x.length∧((List.range p').any λ(i:Nat)=>(List.range y.length).any (q3o x y i))=false)∧((0:Int)=(p':Int)∧x=x∧y=y∧True)∧True∧True ∧
    True∧True∧True∧True∧True∧True∧True)∧∀ (p:Nat),p≤x.length∧((List.range p).any λ(i:Nat)=>(List.range y.length).any (q3o x y i))=false→bif decide ((p:Int)
    < (x.length:Int)) then (∃ (p':Nat),(p'≤y.length∧(List.range p').any (q3o x y (p:Int).toNat)=false)∧((0:Int)=(p':Int)∧x=x∧y=y∧(p:Int)=(p:Int) ∧
    True)∧True∧True∧True∧True∧True∧True∧True∧True∧True)∧∀ (p_1:Nat),p_1≤y.length∧(List.range p_1).any (q3o x y (p:Int).toNat)=false→bif decide ((p_1:Int)
    < (y.length:Int)) then ((0:Int)≤(p:Int)∧(p:Int)<(x.length:Int))∧((0:Int)≤(p_1:Int)∧(p_1:Int)<(y.length:Int))∧(x.length≤(1000:Nat)∧(0:Int) ≤
    (p:Int)∧(p:Int)<(x.length:Int))∧(y.length≤(1000:Nat)∧(0:Int)≤(p_1:Int)∧(p_1:Int)<(y.length:Int))∧True∧bif q0j (x.getD (p:Int).toNat ((0 :
    Int),(0:Int))) (rAt x ((p:Int).toNat+(1:Nat))) (y.getD (p_1:Int).toNat ((0:Int),(0:Int))) (rAt y ((p_1:Int).toNat+(1:Nat)))==(2:Int) then true=q1t x y
    else ((-9223372036854775808:Int)≤(p_1:Int)+(1:Int)∧(p_1:Int)+(1:Int)≤(9223372036854775807:Int))∧∃ (p':Nat),(p'≤y.length∧(List.range p').any (q3o x y (↑p
    : Int).toNat)=false)∧y.length-p'<y.length-p_1∧((p_1:Int)+(1:Int)=(p':Int)∧x=x∧y=y∧(p:Int)=(p:Int)∧True)∧True∧True∧True∧True∧True∧True
    ∧ True∧True∧True else ((-9223372036854775808:Int)≤(p:Int)+(1:Int)∧(p:Int)+(1:Int)≤(9223372036854775807:Int))∧∃ (p':Nat),(p'≤x.length∧((List.range p').any
    λ(i:Nat)=>(List.range y.length).any (q3o x y i))=false)∧x.length-p'<x.length-p∧((p:Int)+(1:Int)=(p':Int)∧x=x∧y=y∧True)∧True∧True∧True ∧
    True∧True∧True∧True∧True∧True else false=q1t x y
     := by
  obtain ⟨⟨hx,hxo⟩,hy,hyo⟩:(x.length≤40∧x.all onB=true)∧(y.length≤40∧y.all onB=true):=h;simp only [and_true,true_and,eq_self,and_self];have e:q1t x y=(List.range x.length).any λi=>(List.range y.length).any (q3o x y i):=rfl
  rw [e];refine ⟨⟨0,⟨Nat.zero_le _,rfl⟩,rfl⟩,?_⟩;rintro i ⟨hi,hai⟩;refine bifP (λhb=>?_) λhb=>?_
  rotate_left
  · have:i=x.length:=by have:=of_decide_eq_false hb;omega
    subst this;exact hai.symm
  have hil:i<x.length:=by have:=of_decide_eq_true hb;omega
  refine ⟨⟨0,⟨Nat.zero_le _,rfl⟩,rfl⟩,?_⟩;rintro k ⟨hk,hak⟩;simp only [Int.toNat_natCast] at hak ⊢;refine bifP (λhb2=>?_) λhb2=>?_
  · have hkl:k<y.length:=by have:=of_decide_eq_true hb2;omega
    rw [at0 x hil,at0 y hkl];refine ⟨by omega,by omega,⟨by omega,by omega,by omega⟩,⟨by omega,by omega,by omega⟩,bifP (λc=>?_) λc=>⟨by omega,k+1,⟨by omega,?_⟩,by omega,by omega⟩⟩
    · symm
      exact List.any_eq_true.2 ⟨i,List.mem_range.2 hil,List.any_eq_true.2 ⟨k,List.mem_range.2 hkl,c⟩⟩
    · rw [q7o,hak,show q3o x y i k=false from c];rfl
  · have:k=y.length:=by have:=of_decide_eq_false hb2;omega
    subst this;refine ⟨by omega,i+1,⟨by omega,?_⟩,by omega,by omega⟩
    rw [q7o,hai,hak];rfl
theorem onAt_eq (r:List P2) (p:P2) (k:Nat):onAt r p k=(q0a (dbl (rAt r k)) (dbl (rAt r (k+1))) p==0&&q6l (dbl (rAt r k)) (dbl (rAt r (k+1))) p):=by
 have e:onAt r p k=((2*(rAt r k).1-p.1)*(2*(rAt r (k+1)).2-p.2)-(2*(rAt r k).2-p.2)*(2*(rAt r (k+1)).1-p.1)==0&&decide ((2*(rAt r k).1-p.1)*(2*(rAt r (k+1)).1-p.1)+(2*(rAt r k).2-p.2)*(2*(rAt r (k+1)).2-p.2)≤0)):=rfl;rw [e];unfold q6l q0a dbl;rw [Bool.eq_iff_iff];simp only [Bool.and_eq_true,beq_iff_eq,decide_eq_true_eq];have hc:(2*(rAt r k).1-p.1)*(2*(rAt r (k+1)).2-p.2)-(2*(rAt r k).2-p.2)*(2*(rAt r (k+1)).1-p.1)=(2*(rAt r (k+1)).1-2*(rAt r k).1)*(p.2-2*(rAt r k).2)-(2*(rAt r (k+1)).2-2*(rAt r k).2)*(p.1-2*(rAt r k).1):=by grind
 rw [← hc];refine and_congr_right λh0=>?_
 rw [← qhp (by omega),qe4,qe4,and_assoc]
theorem hitAt_eq (r:List P2) (p:P2) (k:Nat):q26 r p k=hitB (q0a (dbl (rAt r k)) (dbl (rAt r (k+1))) p) (dbl (rAt r k)) (dbl (rAt r (k+1))) p:=by
 have e:q0y r p k=if 2*(rAt r k).2-p.2≤0∧0<2*(rAt r (k+1)).2-p.2∧0<(2*(rAt r k).1-p.1)*(2*(rAt r (k+1)).2-p.2)-(2*(rAt r k).2-p.2)*(2*(rAt r (k+1)).1-p.1) then 1 else if 0<2*(rAt r k).2-p.2∧2*(rAt r (k+1)).2-p.2≤0∧(2*(rAt r k).1-p.1)*(2*(rAt r (k+1)).2-p.2)-(2*(rAt r k).2-p.2)*(2*(rAt r (k+1)).1-p.1)<0 then -1 else 0:=rfl
 have hc:(2*(rAt r k).1-p.1)*(2*(rAt r (k+1)).2-p.2)-(2*(rAt r k).2-p.2)*(2*(rAt r (k+1)).1-p.1)=q0a (dbl (rAt r k)) (dbl (rAt r (k+1))) p:=by unfold q0a dbl;grind
 unfold q26 hitB;rw [e,hc];generalize q0a (dbl (rAt r k)) (dbl (rAt r (k+1))) p=t;unfold dbl;dsimp only;rw [Bool.eq_iff_iff];simp only [Bool.or_eq_true,Bool.and_eq_true,decide_eq_true_eq];split
 ·simp;omega
 ·split
  ·simp;omega
  ·simp;omega
abbrev qb2 (p:Nat) (r:List P2) (x:Int) (y:Int):Prop :=
 ((x=x∧y=y∧True)∧((dbl (r.getD (p:Int).toNat ((0:Int),(0:Int)))).1=(dbl (r.getD (p:Int).toNat ((0:Int),(0:Int)))).1∧(dbl (r.getD (p:Int).toNat ((0:Int),(0:Int)))).2=(dbl (r.getD (p:Int).toNat ((0:Int),(0:Int)))).2∧True)∧((dbl (rAt r ((p:Int).toNat+(1:Nat)))).1=(dbl (rAt r ((p:Int).toNat+(1:Nat)))).1∧(dbl (rAt r ((p:Int).toNat+(1:Nat)))).2=(dbl (rAt r ((p:Int).toNat+(1:Nat)))).2∧True)∧True)
abbrev qd2 (p:Nat) (p':Bool) (r:List P2) (x:Int) (y:Int):Prop :=
 (false=p'∧r=r∧True∧((List.filter (q26 r (x,y)) (List.range p)).length % (2:Nat)==(1:Nat))=((List.filter (q26 r (x,y)) (List.range p)).length % (2:Nat)==(1:Nat))∧(p:Int)=(p:Int)∧True∧True∧q0a (dbl (r.getD (p:Int).toNat ((0:Int),(0:Int)))) (dbl (rAt r ((p:Int).toNat+(1:Nat)))) (x,y)=q0a (dbl (r.getD (p:Int).toNat ((0:Int),(0:Int)))) (dbl (rAt r ((p:Int).toNat+(1:Nat)))) (x,y)∧True)
abbrev q9d (p:Nat) (p':Bool) (r:List P2) (x:Int) (y:Int):Prop :=
 (false=p'∧r=r∧True∧((List.filter (q26 r (x,y)) (List.range p)).length % (2:Nat)==(1:Nat))=((List.filter (q26 r (x,y)) (List.range p)).length % (2:Nat)==(1:Nat))∧(p:Int)=(p:Int)∧True)
abbrev qhm (p:Nat) (p':Bool) (r:List P2) (x:Int) (y:Int):Prop :=
 (decide (q0a (dbl (r.getD (p:Int).toNat ((0:Int),(0:Int)))) (dbl (rAt r ((p:Int).toNat+(1:Nat)))) (x,y)<(0:Int))=p'∧r=r∧True∧((List.filter (q26 r (x,y)) (List.range p)).length % (2:Nat)==(1:Nat))=((List.filter (q26 r (x,y)) (List.range p)).length % (2:Nat)==(1:Nat))∧(p:Int)=(p:Int)∧True)
set_option maxRecDepth 100000 in
theorem rgPlace_vc (r:List P2) (x y:Int) (h:qdz.pre (r,(x,y))) :
  (∃ (p':Nat),(p'≤r.length∧(List.range p').any (onAt r (x,y))=false)∧(false=((List.filter (q26 r (x,y)) (List.range p')).length % (2:Nat)==(1:Nat))∧(0:Int)=(p':Int)∧r=r∧True∧True)∧((x=x∧y=y∧True)∧True)∧True∧True∧True∧True∧True∧True∧True∧True)∧∀ (p:Nat),p≤r.length∧(List.range p).any (onAt r (x,y))=false→bif decide ((p:Int)<(r.length:Int)) then (0≤(p:Int)∧(p:Int)<(r.length:Int))∧onB (r.getD (p:Int).toNat ((0:Int),(0:Int)))=true∧(r.length≤(1000:Nat)∧0≤(p:Int)∧(p:Int)<(r.length:Int))∧onB (rAt r ((p:Int).toNat+(1:Nat)))=true∧(q0r (dbl (r.getD (p:Int).toNat ((0:Int),(0:Int))))∧q0r (dbl (rAt r ((p:Int).toNat+(1:Nat))))∧q0r (x,y))∧(bif q0a (dbl (r.getD (p:Int).toNat ((0:Int),(0:Int)))) (dbl (rAt r ((p:Int).toNat+(1:Nat)))) (x,y)==(0:Int) then True∧bif decide (min (dbl (r.getD (p:Int).toNat ((0:Int),(0:Int)))).1 (dbl (rAt r ((p:Int).toNat+(1:Nat)))).1≤x) then True∧bif decide (x≤max (dbl (r.getD (p:Int).toNat ((0:Int),(0:Int)))).1 (dbl (rAt r ((p:Int).toNat+(1:Nat)))).1) then True∧bif decide (min (dbl (r.getD (p:Int).toNat ((0:Int),(0:Int)))).2 (dbl (rAt r ((p:Int).toNat+(1:Nat)))).2≤y) then True∧∃ (p':Bool),p'=(q0a (dbl (r.getD (p:Int).toNat ((0:Int),(0:Int)))) (dbl (rAt r ((p:Int).toNat+(1:Nat)))) (x,y)==(0:Int)&&q6l (dbl (r.getD (p:Int).toNat ((0:Int),(0:Int)))) (dbl (rAt r ((p:Int).toNat+(1:Nat)))) (x,y))∧(decide (y≤max (dbl (r.getD (p:Int).toNat ((0:Int),(0:Int)))).2 (dbl (rAt r ((p:Int).toNat+(1:Nat)))).2)=p'∧r=r∧True∧((List.filter (q26 r (x,y)) (List.range p)).length % (2:Nat)==(1:Nat))=((List.filter (q26 r (x,y)) (List.range p)).length % (2:Nat)==(1:Nat))∧(p:Int)=(p:Int)∧True∧True∧q0a (dbl (r.getD (p:Int).toNat ((0:Int),(0:Int)))) (dbl (rAt r ((p:Int).toNat+(1:Nat)))) (x,y)=q0a (dbl (r.getD (p:Int).toNat ((0:Int),(0:Int)))) (dbl (rAt r ((p:Int).toNat+(1:Nat)))) (x,y)∧True)∧(qb2 p r x y)∧True∧True∧True∧True∧True∧True∧True∧True else ∃ (p':Bool),p'=(q0a (dbl (r.getD (p:Int).toNat ((0:Int),(0:Int)))) (dbl (rAt r ((p:Int).toNat+(1:Nat)))) (x,y)==(0:Int)&&q6l (dbl (r.getD (p:Int).toNat ((0:Int),(0:Int)))) (dbl (rAt r ((p:Int).toNat+(1:Nat)))) (x,y))∧(qd2 p p' r x y)∧(qb2 p r x y)∧True∧True∧True∧True∧True∧True∧True∧True else ∃ (p':Bool),p'=(q0a (dbl (r.getD (p:Int).toNat ((0:Int),(0:Int)))) (dbl (rAt r ((p:Int).toNat+(1:Nat)))) (x,y)==(0:Int)&&q6l (dbl (r.getD (p:Int).toNat ((0:Int),(0:Int)))) (dbl (rAt r ((p:Int).toNat+(1:Nat)))) (x,y))∧(qd2 p p' r x y)∧(qb2 p r x y)∧True∧True∧True∧True∧True∧True∧True∧True else ∃ (p':Bool),p'=(q0a (dbl (r.getD (p:Int).toNat ((0:Int),(0:Int)))) (dbl (rAt r ((p:Int).toNat+(1:Nat)))) (x,y)==(0:Int)&&q6l (dbl (r.getD (p:Int).toNat ((0:Int),(0:Int)))) (dbl (rAt r ((p:Int).toNat+(1:Nat)))) (x,y))∧(qd2 p p' r x y)∧(qb2 p r x y)∧True∧True∧True∧True∧True∧True∧True∧True else ∃ (p':Bool),p'=(q0a (dbl (r.getD (p:Int).toNat ((0:Int),(0:Int)))) (dbl (rAt r ((p:Int).toNat+(1:Nat)))) (x,y)==(0:Int)&&q6l (dbl (r.getD (p:Int).toNat ((0:Int),(0:Int)))) (dbl (rAt r ((p:Int).toNat+(1:Nat)))) (x,y))∧(qd2 p p' r x y)∧(qb2 p r x y)∧True∧True∧True∧True∧True∧True∧True∧True)∧∀ (p_1:Bool),p_1=(q0a (dbl (r.getD (p:Int).toNat ((0:Int),(0:Int)))) (dbl (rAt r ((p:Int).toNat+(1:Nat)))) (x,y)==(0:Int)&&q6l (dbl (r.getD (p:Int).toNat ((0:Int),(0:Int)))) (dbl (rAt r ((p:Int).toNat+(1:Nat)))) (x,y))→bif p_1 then (0:Int)=q1g r (x,y) else (bif decide ((dbl (r.getD (p:Int).toNat ((0:Int),(0:Int)))).2≤y) then bif decide (y<(dbl (rAt r ((p:Int).toNat+(1:Nat)))).2) then bif decide ((0:Int)<q0a (dbl (r.getD (p:Int).toNat ((0:Int),(0:Int)))) (dbl (rAt r ((p:Int).toNat+(1:Nat)))) (x,y)) then ∃ (p':Bool),p'=hitB (q0a (dbl (r.getD (p:Int).toNat ((0:Int),(0:Int)))) (dbl (rAt r ((p:Int).toNat+(1:Nat)))) (x,y)) (dbl (r.getD (p:Int).toNat ((0:Int),(0:Int)))) (dbl (rAt r ((p:Int).toNat+(1:Nat)))) (x,y)∧(true=p'∧r=r∧True∧((List.filter (q26 r (x,y)) (List.range p)).length % (2:Nat)==(1:Nat))=((List.filter (q26 r (x,y)) (List.range p)).length % (2:Nat)==(1:Nat))∧(p:Int)=(p:Int)∧True)∧((x=x∧y=y∧True)∧True)∧True∧True∧True∧True∧True∧True∧True∧True else bif decide ((dbl (rAt r ((p:Int).toNat+(1:Nat)))).2≤y) then bif decide (y<(dbl (r.getD (p:Int).toNat ((0:Int),(0:Int)))).2) then ∃ (p':Bool),p'=hitB (q0a (dbl (r.getD (p:Int).toNat ((0:Int),(0:Int)))) (dbl (rAt r ((p:Int).toNat+(1:Nat)))) (x,y)) (dbl (r.getD (p:Int).toNat ((0:Int),(0:Int)))) (dbl (rAt r ((p:Int).toNat+(1:Nat)))) (x,y)∧(qhm p p' r x y)∧((x=x∧y=y∧True)∧True)∧True∧True∧True∧True∧True∧True∧True∧True else ∃ (p':Bool),p'=hitB (q0a (dbl (r.getD (p:Int).toNat ((0:Int),(0:Int)))) (dbl (rAt r ((p:Int).toNat+(1:Nat)))) (x,y)) (dbl (r.getD (p:Int).toNat ((0:Int),(0:Int)))) (dbl (rAt r ((p:Int).toNat+(1:Nat)))) (x,y)∧(q9d p p' r x y)∧((x=x∧y=y∧True)∧True)∧True∧True∧True∧True∧True∧True∧True∧True else ∃ (p':Bool),p'=hitB (q0a (dbl (r.getD (p:Int).toNat ((0:Int),(0:Int)))) (dbl (rAt r ((p:Int).toNat+(1:Nat)))) (x,y)) (dbl (r.getD (p:Int).toNat ((0:Int),(0:Int)))) (dbl (rAt r ((p:Int).toNat+(1:Nat)))) (x,y)∧(q9d p p' r x y)∧((x=x∧y=y∧True)∧True)∧True∧True∧True∧True∧True∧True∧True∧True else bif decide ((dbl (rAt r ((p:Int).toNat+(1:Nat)))).2≤y) then bif decide (y<(dbl (r.getD (p:Int).toNat ((0:Int),(0:Int)))).2) then ∃ (p':Bool),p'=hitB (q0a (dbl (r.getD (p:Int).toNat ((0:Int),(0:Int)))) (dbl (rAt r ((p:Int).toNat+(1:Nat)))) (x,y)) (dbl (r.getD (p:Int).toNat ((0:Int),(0:Int)))) (dbl (rAt r ((p:Int).toNat+(1:Nat)))) (x,y)∧(qhm p p' r x y)∧((x=x∧y=y∧True)∧True)∧True∧True∧True∧True∧True∧True∧True∧True else ∃ (p':Bool),p'=hitB (q0a (dbl (r.getD (p:Int).toNat ((0:Int),(0:Int)))) (dbl (rAt r ((p:Int).toNat+(1:Nat)))) (x,y)) (dbl (r.getD (p:Int).toNat ((0:Int),(0:Int)))) (dbl (rAt r ((p:Int).toNat+(1:Nat)))) (x,y)∧(q9d p p' r x y)∧((x=x∧y=y∧True)∧True)∧True∧True∧True∧True∧True∧True∧True∧True else ∃ (p':Bool),p'=hitB (q0a (dbl (r.getD (p:Int).toNat ((0:Int),(0:Int)))) (dbl (rAt r ((p:Int).toNat+(1:Nat)))) (x,y)) (dbl (r.getD (p:Int).toNat ((0:Int),(0:Int)))) (dbl (rAt r ((p:Int).toNat+(1:Nat)))) (x,y)∧(q9d p p' r x y)∧((x=x∧y=y∧True)∧True)∧True∧True∧True∧True∧True∧True∧True∧True else bif decide ((dbl (rAt r ((p:Int).toNat+(1:Nat)))).2≤y) then bif decide (y<(dbl (r.getD (p:Int).toNat ((0:Int),(0:Int)))).2) then ∃ (p':Bool),p'=hitB (q0a (dbl (r.getD (p:Int).toNat ((0:Int),(0:Int)))) (dbl (rAt r ((p:Int).toNat+(1:Nat)))) (x,y)) (dbl (r.getD (p:Int).toNat ((0:Int),(0:Int)))) (dbl (rAt r ((p:Int).toNat+(1:Nat)))) (x,y)∧(qhm p p' r x y)∧((x=x∧y=y∧True)∧True)∧True∧True∧True∧True∧True∧True∧True∧True else ∃ (p':Bool),p'=hitB (q0a (dbl (r.getD (p:Int).toNat ((0:Int),(0:Int)))) (dbl (rAt r ((p:Int).toNat+(1:Nat)))) (x,y)) (dbl (r.getD (p:Int).toNat ((0:Int),(0:Int)))) (dbl (rAt r ((p:Int).toNat+(1:Nat)))) (x,y)∧(q9d p p' r x y)∧((x=x∧y=y∧True)∧True)∧True∧True∧True∧True∧True∧True∧True∧True else ∃ (p':Bool),p'=hitB (q0a (dbl (r.getD (p:Int).toNat ((0:Int),(0:Int)))) (dbl (rAt r ((p:Int).toNat+(1:Nat)))) (x,y)) (dbl (r.getD (p:Int).toNat ((0:Int),(0:Int)))) (dbl (rAt r ((p:Int).toNat+(1:Nat)))) (x,y)∧(q9d p p' r x y)∧((x=x∧y=y∧True)∧True)∧True∧True∧True∧True∧True∧True∧True∧True)∧∀ (p_2:Bool),p_2=hitB (q0a (dbl (r.getD (p:Int).toNat ((0:Int),(0:Int)))) (dbl (rAt r ((p:Int).toNat+(1:Nat)))) (x,y)) (dbl (r.getD (p:Int).toNat ((0:Int),(0:Int)))) (dbl (rAt r ((p:Int).toNat+(1:Nat)))) (x,y)→bif p_2 then (zFit ((p:Int)+1))∧∃ (p':Nat),(p'≤r.length∧(List.range p').any (onAt r (x,y))=false)∧r.length-p'<r.length-p∧((!(List.filter (q26 r (x,y)) (List.range p)).length % (2:Nat)==(1:Nat))=((List.filter (q26 r (x,y)) (List.range p')).length % (2:Nat)==(1:Nat))∧(p:Int)+1=(p':Int)∧r=r∧True∧True)∧((x=x∧y=y∧True)∧True)∧True∧True∧True∧True∧True∧True∧True∧True else (zFit ((p:Int)+1))∧∃ (p':Nat),(p'≤r.length∧(List.range p').any (onAt r (x,y))=false)∧r.length-p'<r.length-p∧(((List.filter (q26 r (x,y)) (List.range p)).length % (2:Nat)==(1:Nat))=((List.filter (q26 r (x,y)) (List.range p')).length % (2:Nat)==(1:Nat))∧(p:Int)+1=(p':Int)∧r=r∧True∧True)∧((x=x∧y=y∧True)∧True)∧True∧True∧True∧True∧True∧True∧True∧True else bif (List.filter (q26 r (x,y)) (List.range p)).length % (2:Nat)==(1:Nat) then (1:Int)=q1g r (x,y) else (-1:Int)=q1g r (x,y):=by
 delta qb2 qd2 q9d qhm zFit
 obtain ⟨⟨hl,hon⟩,hh⟩:(r.length≤40∧r.all onB=true)∧q0r (x,y):=h;simp only [and_true,true_and,eq_self,and_self];have hP:q1g r (x,y)=if (List.range r.length).any (onAt r (x,y)) then 0 else if ((List.range r.length).filter (q26 r (x,y))).length % 2==1 then 1 else -1:=rfl
 refine ⟨⟨0,⟨Nat.zero_le _,rfl⟩,rfl,rfl⟩,?_⟩;rintro k ⟨hk,ha⟩;refine bifP (λhb=>?_) λhb=>?_
 rotate_left
 ·have:k=r.length:=by have:=of_decide_eq_false hb;omega
  subst this;rw [hP,ha];refine bifP (λc=>by rw [c];rfl) λc=>by rw [c];rfl
 have hkl:k<r.length:=by have:=of_decide_eq_true hb;omega
 have hn:0<r.length:=by omega
 simp only [Int.toNat_natCast,at0 r hkl];have oa:=q23 hon hn k;have ob:=q23 hon hn (k+1);have eo:=onAt_eq r (x,y) k;have eh:=hitAt_eq r (x,y) k;refine ⟨by omega,oa,⟨by omega,by omega,by omega⟩,ob,⟨qej oa,qej ob,hh⟩,?_⟩
 refine ⟨?_,?_⟩
 ·unfold q6l
  repeat' (refine bifP (λc=>?_) (λc=>?_))
  all_goals (refine ⟨_,rfl,?_⟩;simp [*])
 ·rintro q rfl
  rw [← eo];refine bifP (λc=>?_) λc=>⟨?_,?_⟩
  ·have:(List.range r.length).any (onAt r (x,y))=true:=List.any_eq_true.2 ⟨k,List.mem_range.2 hkl,c⟩
   rw [hP,this];rfl
  ·unfold hitB
   repeat' (refine bifP (λc=>?_) (λc=>?_))
   all_goals (refine ⟨_,rfl,?_⟩;simp [*])
  ·rintro q rfl
   rw [← eh];have e1:(List.range (k+1)).any (onAt r (x,y))=false:=by rw [q7o,ha,c];rfl
   have e2:(List.range (k+1)).filter (q26 r (x,y))=(List.range k).filter (q26 r (x,y))++bif q26 r (x,y) k then [k] else []:=by
    rw [List.range_succ,List.filter_append,List.filter_cons];cases q26 r (x,y) k <;> rfl
   refine bifP (λc2=>⟨by omega,k+1,⟨by omega,e1⟩,by omega,?_,by omega⟩) λc2=>⟨by omega,k+1,⟨by omega,e1⟩,by omega,?_,by omega⟩
   ·rw [e2,c2,List.length_append]
    show (!_ % 2==1)=((_+1) % 2==1);generalize ((List.range k).filter (q26 r (x,y))).length=m;rcases Nat.mod_two_eq_zero_or_one m with h0 | h0
    ·rw [h0,show (m+1) % 2=1 by omega];rfl
    ·rw [h0,show (m+1) % 2=0 by omega];rfl
   ·rw [e2,c2]
    show _=((_++[]).length % 2==1);rw [List.append_nil]
set_option maxRecDepth 100000 in
theorem rgValid_vc (r:List P2) (h:q97.pre r) :
    bif decide ((r.length:Int)<(3:Int)) then false=q05 r else bif decide ((40:Int)<(r.length:Int)) then false=q05 r else r.length≤(1000:Nat)∧bif !r.all onB then
    false=q05 r else q0t r∧bif decide (q5y r≤(0:Int)) then false=q05 r else (∃ (p':Nat),(p'≤r.length∧(List.range p').all (q1v r)=true)∧((0:Int)=(↑p' :
    Int)∧r=r∧(r.length:Int)=(r.length:Int)∧True)∧True∧True∧True∧True∧True∧True∧True∧True∧True)∧∀ (p:Nat),p≤r.length∧(List.range p).all (q1v r) =
    true→bif decide ((p:Int)<(r.length:Int)) then ((0:Int)≤(p:Int)∧(p:Int)<(r.length:Int))∧((-9223372036854775808:Int)≤(p:Int)+(1:Int)∧(p:Int)+(1 :
    Int)≤(9223372036854775807:Int))∧(r.length:Int)≠(0:Int)∧((0:Int)≤((p:Int)+(1:Int)).tmod (r.length:Int)∧((p:Int)+(1:Int)).tmod (r.length:Int) <
    (r.length:Int))∧((-9223372036854775808:Int)≤(p:Int)+(2:Int)∧(p:Int)+(2:Int)≤(9223372036854775807:Int))∧(r.length:Int)≠(0:Int)∧((0:Int)≤((p:Int)
    + (2:Int)).tmod (r.length:Int)∧((p:Int)+(2:Int)).tmod (r.length:Int)<(r.length:Int))∧True∧bif q18 (r.getD (p:Int).toNat ((0:Int),(0:Int))) (r.getD (((↑p :
    Int)+(1:Int)).tmod (r.length:Int)).toNat ((0:Int),(0:Int))) (r.getD (((p:Int)+(2:Int)).tmod (r.length:Int)).toNat ((0:Int),(0:Int)))==(0:Int) then false =
    q05 r else ((-9223372036854775808:Int)≤(p:Int)+(2:Int)∧(p:Int)+(2:Int)≤(9223372036854775807:Int))∧(∃ (p':Nat),SrAt r (p:Int).toNat p'∧((p:Int)+(2 :
    Int)=(p':Int)∧r=r∧(r.length:Int)=(r.length:Int)∧(p:Int)=(p:Int)∧True)∧True∧True∧True∧True∧True∧True∧True∧True∧True)∧∀ (p_1:Nat),SrAt r
    (p:Int).toNat p_1→bif decide ((p_1:Int)<(r.length:Int)) then ((-9223372036854775808:Int)≤(p_1:Int)+(1:Int)∧(p_1:Int)+(1:Int)≤(9223372036854775807:Int)) ∧
    (r.length:Int)≠(0:Int)∧bif ((p_1:Int)+(1:Int)).tmod (r.length:Int) != (p:Int) then ((0:Int)≤(p:Int)∧(p:Int)<(r.length:Int))∧((0:Int)≤(p_1:Int)
    ∧ (p_1:Int)<(r.length:Int))∧(r.length≤(1000:Nat)∧(0:Int)≤(p:Int)∧(p:Int)<(r.length:Int))∧(r.length≤(1000:Nat)∧(0:Int)≤(p_1:Int)∧(p_1:Int)
    < (r.length:Int))∧True∧bif q0j (r.getD (p:Int).toNat ((0:Int),(0:Int))) (rAt r ((p:Int).toNat+(1:Nat))) (r.getD (p_1:Int).toNat ((0:Int),(0:Int))) (rAt r
    ((p_1:Int).toNat+(1:Nat))) != (0:Int) then false=q05 r else ((-9223372036854775808:Int)≤(p_1:Int)+(1:Int)∧(p_1:Int)+(1:Int)≤(9223372036854775807:Int)) ∧
    ∃ (p':Nat),SrAt r (p:Int).toNat p'∧(2:Nat)*r.length+(2:Nat)-p'<(2:Nat)*r.length+(2:Nat)-p_1∧((p_1:Int)+(1:Int)=(p':Int)∧r=r∧(↑r.length :
    Int)=(r.length:Int)∧(p:Int)=(p:Int)∧True)∧True∧True∧True∧True∧True∧True∧True∧True∧True else ((-9223372036854775808:Int)≤(p_1:Int)+(1:Int) ∧
    (p_1:Int)+(1:Int)≤(9223372036854775807:Int))∧∃ (p':Nat),SrAt r (p:Int).toNat p'∧(2:Nat)*r.length+(2:Nat)-p'<(2:Nat)*r.length+(2:Nat)-p_1∧((↑p_1 :
    Int)+(1:Int)=(p':Int)∧r=r∧(r.length:Int)=(r.length:Int)∧(p:Int)=(p:Int)∧True)∧True∧True∧True∧True∧True∧True∧True∧True∧True else
    ((-9223372036854775808:Int)≤(p:Int)+(1:Int)∧(p:Int)+(1:Int)≤(9223372036854775807:Int))∧∃ (p':Nat),(p'≤r.length∧(List.range p').all (q1v r)=true) ∧
    r.length-p'<r.length-p∧((p:Int)+(1:Int)=(p':Int)∧r=r∧(r.length:Int)=(r.length:Int)∧True)∧True∧True∧True∧True∧True∧True∧True∧True∧True
    else true=q05 r
     := by
  have hl:r.length≤1000:=h;simp only [and_true,true_and,eq_self,and_self];have e:q05 r=(decide (3≤r.length)&&(decide (r.length≤40)&&(r.all onB&&(decide (0<q5y r)&&q48 r)))):=rfl;rw [e];refine bifP (λh1=>?_) λh1=>bifP (λh2=>?_) λh2=>⟨hl,bifP (λh3=>?_) λh3=>?_⟩
  · have:=of_decide_eq_true h1
    rw [decide_eq_false (show ¬ 3≤r.length by omega),Bool.false_and]
  · have:=of_decide_eq_true h2
    rw [decide_eq_false (show ¬ r.length≤40 by omega),Bool.false_and,Bool.and_false]
  · rw [show r.all onB=false from cast (Bool.not_eq_true' _) h3,Bool.false_and,Bool.and_false,Bool.and_false]
  have h1:=of_decide_eq_false h1;have h2:=of_decide_eq_false h2;have h3:r.all onB=true:=cast (Bool.not_eq_false' _) h3;have hn:0<r.length:=by omega
  refine ⟨⟨by omega,h3⟩,bifP (λh4=>?_) λh4=>?_⟩
  · have:=of_decide_eq_true h4
    rw [decide_eq_false (show ¬ 0<q5y r by omega),Bool.false_and,Bool.and_false,Bool.and_false,Bool.and_false]
  have h4:=of_decide_eq_false h4;rw [decide_eq_true (show 3≤r.length by omega),decide_eq_true (show r.length≤40 by omega),h3,decide_eq_true (show 0<q5y r by omega),Bool.true_and,Bool.true_and,Bool.true_and,Bool.true_and]
  have eS:q48 r=(List.range r.length).all (q1v r):=rfl;rw [eS];refine ⟨⟨0,⟨Nat.zero_le _,rfl⟩,rfl⟩,?_⟩;rintro i ⟨hi,hai⟩;refine bifP (λhb=>?_) λhb=>?_
  rotate_left
  · have:i=r.length:=by have:=of_decide_eq_false hb;omega
    subst this;exact hai.symm
  have hil:i<r.length:=by have:=of_decide_eq_true hb;omega
  have no:q1v r i=false→false=(List.range r.length).all (q1v r):=λh=>by
    symm
    rw [← Bool.not_eq_true,List.all_eq_true];intro ha;have:=ha i (List.mem_range.2 hil);rw [h] at this;cases this
  have eA:q1v r i=(q18 (rAt r i) (rAt r (i+1)) (rAt r (i+2)) != 0&&(List.range r.length).all λk=>!(decide (i+2≤k)&&decide (k+1<i+r.length))||!decide (0<q0j (rAt r i) (rAt r (i+1)) (rAt r k) (rAt r (k+1)))):=rfl
  have t1:=q8k (i+1) hn;have t2:=q8k (i+2) hn;simp only [tm1,tm2,Int.toNat_natCast,atm',at0 r hil];refine ⟨by omega,by omega,by omega,t1,by omega,by omega,t2,bifP (λc1=>no ?_) λc1=>⟨by omega,⟨i+2,⟨hil,Nat.le_refl _,.inr rfl,beq_eq_false_iff_ne.1 c1,λk k1 k2=>by omega⟩,by omega⟩,?_⟩⟩
  · rw [eA,bne,c1];rfl
  rintro j ⟨_,j1,j2,j3,j4⟩;refine bifP (λhb2=>?_) λhb2=>?_
  · have hjl:j<r.length:=by have:=of_decide_eq_true hb2;omega
    have next:(j+1<i+r.length→¬ 0<q0j (rAt r i) (rAt r (i+1)) (rAt r j) (rAt r (j+1)))→SrAt r i (j+1):=λhc=>⟨hil,by omega,by omega,j3,λk k1 k2 k3=>by
      by_cases hk:k=j
      · subst hk;exact hc k3
      · exact j4 k k1 (by omega) k3⟩
    simp only [at0 r hjl];refine ⟨by omega,by omega,bifP (λc2=>?_) λc2=>⟨by omega,j+1,next ?_,by omega,by omega⟩⟩
    · refine ⟨by omega,by omega,⟨by omega,by omega,by omega⟩,⟨by omega,by omega,by omega⟩,bifP (λc3=>no ?_) λc3=>⟨by omega,j+1,next λ_=>?_,by omega,by omega⟩⟩
      · have hc:0<q0j (rAt r i) (rAt r (i+1)) (rAt r j) (rAt r (j+1)):=by
          have:=Geo.qh3 (rAt r i) (rAt r (i+1)) (rAt r j) (rAt r (j+1))
          have:=bne_iff_ne.1 c3
          omega
        have hjn:j+1<i+r.length:=by
          have c2:=bne_iff_ne.1 c2;refine Nat.not_le.1 λhle=>c2 ?_
          have:j+1=r.length∧i=0:=by omega
          rw [this.1,this.2,Nat.mod_self]
        rw [eA,← Bool.not_eq_true];intro hh;rw [Bool.and_eq_true,List.all_eq_true] at hh;have:=hh.2 j (List.mem_range.2 hjl);rw [decide_eq_true j1,decide_eq_true hjn,decide_eq_true hc] at this;cases this
      · have:=bne_eq_false_iff_eq.1 c3
        omega
    · intro hjn
      exfalso
      have c2:=bne_eq_false_iff_eq.1 c2;by_cases hj:j+1=r.length
      · rw [hj,Nat.mod_self] at c2;omega
      · rw [Nat.mod_eq_of_lt (by omega)] at c2;omega
  · have hjl:r.length≤j:=by have:=of_decide_eq_false hb2;omega
    refine ⟨by omega,i+1,⟨by omega,?_⟩,by omega,by omega⟩
    rw [range_all,hai,eA,Bool.true_and,bne_iff_ne.2 j3,Bool.true_and,List.all_eq_true];intro k hk;have hk:=List.mem_range.1 hk;by_cases k1:i+2≤k
    · by_cases k3:k+1<i+r.length
      · rw [decide_eq_false (j4 k k1 (by omega) k3)];exact Bool.or_true _
      · rw [decide_eq_false k3,Bool.and_false];rfl
    · rw [decide_eq_false k1];rfl
end Go.Proofs.YtednmlmllbkhhaaGreatDoor
namespace Go.Proofs.YtednmlmllbkhhaaGreatDoor
open Go.RowKit R Geo.Zn
set_option maxRecDepth 100000 in
theorem on_vc (x y:Int) :
    True∧bif decide ((0:Int)≤min x y) then True∧decide (max x y≤(32767:Int))=onB (x,y) else false=onB (x,y)
     := by
  refine ⟨trivial,bifP (λhb=>⟨trivial,?_⟩) λhb=>?_⟩
  · show _=(decide (0≤min x y)&&_)
    rw [hb,Bool.true_and]
  · show _=(decide (0≤min x y)&&_)
    rw [hb,Bool.false_and]
set_option maxRecDepth 100000 in
theorem onL_vc (l:List (Int×Int)) (h:cOnL.pre l) :
    (∃ (p':Nat),(p'≤l.length∧(List.take p' l).all onB=true)∧((0:Int)=(p':Int)∧l=l∧l=l∧(l.length:Int)=(l.length:Int)∧True)∧True∧True∧True∧True∧True
    ∧ True∧True∧True∧True)∧∀ (p:Nat),p≤l.length∧(List.take p l).all onB=true→bif decide ((p:Int)<(l.length:Int)) then ((0:Int)≤(p:Int)∧(p:Int)<(↑l.length
    : Int))∧True∧bif !onB (l.getD (p:Int).toNat ((0:Int),(0:Int))) then false=l.all onB else ((-9223372036854775808:Int)≤(p:Int)+(1:Int)∧(p:Int)+(1:Int) ≤
    (9223372036854775807:Int))∧∃ (p':Nat),(p'≤l.length∧(List.take p' l).all onB=true)∧l.length-p'<l.length-p∧((p:Int)+(1:Int)=(p':Int)∧l=l∧l=l ∧
    (l.length:Int)=(l.length:Int)∧True)∧True∧True∧True∧True∧True∧True∧True∧True∧True else true=l.all onB
     := by
  simp only [true_and,and_true];have hl:l.length≤1000:=h;refine ⟨⟨0,⟨Nat.zero_le _,rfl⟩,rfl⟩,?_⟩;rintro p ⟨hp,ha⟩;have hti:((p:Int).toNat)=p:=rfl;simp only [hti];refine bifP (λhb=>?_) λhb=>?_
  · have hlt:p<l.length:=by have:=of_decide_eq_true hb;omega
    refine ⟨⟨by omega,by omega⟩,bifP (λhb=>?_) λhb=>⟨⟨by omega,by omega⟩,p+1,⟨by omega,?_⟩,by omega,rfl⟩⟩
    · rw [Zl.qbk l ((0:Int),(0:Int)) _ p hlt (by simpa using hb)]
    · rw [Zl.q8v l ((0:Int),(0:Int)) _ p hlt,ha,Bool.true_and];simpa using hb
  · have hle:l.length≤p:=by have:=of_decide_eq_false hb;omega
    rw [Zl.all_end l _ p hle] at ha;exact ha.symm
set_option maxRecDepth 100000 in
theorem from_vc (a b c d:Int) (h:cFrom.pre ((a,b),(c,d))) :
    ((-9223372036854775808:Int)≤c-a∧c-a≤(9223372036854775807:Int))∧((-9223372036854775808:Int)≤d-b∧d-b≤(9223372036854775807:Int))∧(c-a,d-b)=(c-a,d-b)
     := by
  have h:onB (a,b)=true∧onB (c,d)=true:=h;obtain ⟨h1,h2⟩:=h;have h1:=Zl.q0x h1;have h2:=Zl.q0x h2;dsimp only at h1 h2;exact ⟨⟨by omega,by omega⟩,⟨by omega,by omega⟩,rfl⟩
set_option maxRecDepth 100000 in
theorem along_vc (a b c d:Int) (h:cAlong.pre ((a,b),(c,d))) :
    ((-9223372036854775808:Int)≤a*c∧a*c≤(9223372036854775807:Int))∧((-9223372036854775808:Int)≤b*d∧b*d≤(9223372036854775807:Int))∧((-9223372036854775808:Int) ≤
    a*c+b*d∧a*c+b*d≤(9223372036854775807:Int))∧a*c+b*d=a*c+b*d
     := by
  have h:VecOk ((a,b),(c,d)):=h;obtain ⟨q1,q2,q3,q4⟩:=h;dsimp only at q1 q2 q3 q4;have h1:=Zl.q3w (a:=a) (b:=c) (by omega) (by omega) (by omega) (by omega)
  have h2:=Zl.q3w (a:=b) (b:=d) (by omega) (by omega) (by omega) (by omega)
  exact ⟨⟨by omega,by omega⟩,⟨by omega,by omega⟩,⟨by omega,by omega⟩,rfl⟩
set_option maxRecDepth 100000 in
theorem area_vc (a b c d:Int) (h:cArea.pre ((a,b),(c,d))) :
    ((-9223372036854775808:Int)≤a*d∧a*d≤(9223372036854775807:Int))∧((-9223372036854775808:Int)≤b*c∧b*c≤(9223372036854775807:Int))∧((-9223372036854775808:Int) ≤
    a*d-b*c∧a*d-b*c≤(9223372036854775807:Int))∧a*d-b*c=a*d-b*c
     := by
  have h:VecOk ((a,b),(c,d)):=h;obtain ⟨q1,q2,q3,q4⟩:=h;dsimp only at q1 q2 q3 q4;have h1:=Zl.q3w (a:=a) (b:=d) (by omega) (by omega) (by omega) (by omega)
  have h2:=Zl.q3w (a:=b) (b:=c) (by omega) (by omega) (by omega) (by omega)
  exact ⟨⟨by omega,by omega⟩,⟨by omega,by omega⟩,⟨by omega,by omega⟩,rfl⟩
set_option maxRecDepth 100000 in
theorem open_vc (a b c d:Int) (h:cOpen.pre ((a,b),(c,d))) :
    (onB (a,b)=true∧onB (c,d)=true)∧(a,b,c,d,c-a,d-b)=segI (a,b) (c,d)
     := by
  exact ⟨h,rfl⟩
set_option maxRecDepth 100000 in
theorem side_vc (a b c d e f x y:Int) (h:cSide.pre ((a,b,c,d,e,f),(x,y))) :
    (onB (a,b)=true∧onB (x,y)=true)∧VecOk ((e,f),x-a,y-b)∧bif decide ((0:Int)<e*(y-b)-f*(x-a)) then (1:Int)=q1a (a,b,c,d,e,f) (x,y) else bif decide
    (e*(y-b)-f*(x-a)<(0:Int)) then (-1:Int)=q1a (a,b,c,d,e,f) (x,y) else (0:Int)=q1a (a,b,c,d,e,f) (x,y)
     := by
  have h:q3m (a,b,c,d,e,f)∧onB (x,y)=true:=h;obtain ⟨⟨h1,h2,h3⟩,h4⟩:=h;have g1:=Zl.q0x h1;have g2:=Zl.q0x h4;dsimp only at g1 g2 h2 h3;refine ⟨⟨h1,h4⟩,⟨?_,?_,?_,?_⟩,?_⟩
  · exact h2
  · exact h3
  · dsimp only;omega
  · dsimp only;omega
  · show bif decide (0<e*(y-b)-f*(x-a)) then (1:Int)=sgn (e*(y-b)-f*(x-a)) else bif decide (e*(y-b)-f*(x-a)<0) then (-1:Int)=sgn (e*(y-b)-f*(x-a)) else (0:Int)=sgn (e*(y-b)-f*(x-a))
    generalize e*(y-b)-f*(x-a)=n;unfold sgn;refine bifP (λhb=>?_) λhb=>bifP (λhb2=>?_) λhb2=>?_
    · rw [if_pos (of_decide_eq_true hb)]
    · rw [if_neg (of_decide_eq_false hb),if_pos (of_decide_eq_true hb2)]
    · rw [if_neg (of_decide_eq_false hb),if_neg (of_decide_eq_false hb2)]
set_option maxRecDepth 100000 in
theorem turn_vc (a b c d x y:Int) :
    [(a,b),(c,d),(x,y)].length≤(1000:Nat)∧bif ![(a,b),(c,d),(x,y)].all onB then (0:Int)=q18 (a,b) (c,d) (x,y) else (onB (a,b)=true∧onB (c,d)=true)∧(q3m (a,
    b,c,d,c-a,d-b)∧onB (x,y)=true)∧q1a (a,b,c,d,c-a,d-b) (x,y)=q18 (a,b) (c,d) (x,y)
     := by
  have e:[(a,b),(c,d),(x,y)].all onB=(onB (a,b)&&(onB (c,d)&&onB (x,y))):=by simp only [List.all_cons,List.all_nil,Bool.and_true]
  rw [e];unfold q18;refine ⟨by simp,bifP (λhb=>?_) λhb=>?_⟩
  · rw [if_neg (by rw [Bool.not_eq_true'] at hb;rw [hb];decide)]
  · have hb:(onB (a,b)&&(onB (c,d)&&onB (x,y)))=true:=by simpa using hb
    rw [if_pos hb];simp only [Bool.and_eq_true] at hb;exact ⟨⟨hb.1,hb.2.1⟩,⟨seg_ok hb.1 hb.2.1,hb.2.2⟩,side_seg (a,b) (c,d) (x,y)⟩
set_option maxRecDepth 100000 in
theorem dist_vc (a b c d:Int) :
    [(a,b),(c,d)].length≤(1000:Nat)∧bif ![(a,b),(c,d)].all onB then (0:Int)=q0f (a,b) (c,d) else (onB (a,b)=true∧onB (c,d)=true)∧VecOk ((c-a,d-b),c-a,d -
    b)∧(c-a)*(c-a)+(d-b)*(d-b)=q0f (a,b) (c,d)
     := by
  have e:[(a,b),(c,d)].all onB=(onB (a,b)&&onB (c,d)):=by rw [List.all_cons,List.all_cons,List.all_nil,Bool.and_true]
  rw [e];unfold q0f;refine ⟨by simp,bifP (λhb=>?_) λhb=>?_⟩
  · rw [if_neg (by rw [Bool.not_eq_true'] at hb;rw [hb];decide)]
  · have hb:(onB (a,b)&&onB (c,d))=true:=by simpa using hb
    rw [if_pos hb];rw [Bool.and_eq_true] at hb;have h1:=Zl.q0x hb.1;have h2:=Zl.q0x hb.2;dsimp only at h1 h2;refine ⟨hb,⟨?_,?_,?_,?_⟩,rfl⟩ <;> (dsimp only;omega)
set_option maxRecDepth 100000 in
theorem name_vc (s:List UInt8) (h:cIsName.pre s) :
    s.length≤(1000:Nat)∧bif (Lx.lex s).2.1==(0:Int) then bif (↑(List.map tokP (Lx.lex s).1).length:Int)==(1:Int) then ((0:Int)≤(0:Int)∧(0:Int)<(↑(List.map tokP
    (Lx.lex s).1).length:Int))∧bif ((List.map tokP (Lx.lex s).1).getD (Int.toNat (0:Int)) ((0:Int),(0:Int),(0:Int),[])).1==(1:Int) then ((0:Int)≤(0:Int)∧(0:Int) <
    (↑(List.map tokP (Lx.lex s).1).length:Int))∧(((List.map tokP (Lx.lex s).1).getD (Int.toNat (0:Int)) ((0:Int),(0:Int),(0:Int),[])).2.2.2==s)=Lx.q03 s else false =
    Lx.q03 s else false=Lx.q03 s else false=Lx.q03 s
     := by
  have h1000:s.length≤1000:=h;have hyes:=Lx.lex_name s (by omega)
  have hno:∀ (t:Lx.Tok) (e a:Int),Lx.lex s=([t],e,a)→e=0→t.kind=1→t.text=s→Lx.q03 s=true:=λt e a=>Lx.name_lex s (by omega)
  have nam:(Lx.q03 s=true→False)→false=Lx.q03 s:=λh=>by
    cases hh:Lx.q03 s
    · rfl
    · exact (h hh).elim
  generalize Lx.lex s=L at *
  obtain ⟨l,er,a⟩:=L;dsimp only at *
  refine ⟨by omega,bifP (λhe=>bifP (λhl=>?_) λhl=>nam λhh=>?_) λhe=>nam λhh=>?_⟩
  · obtain ⟨t,rfl⟩:∃ t,l=[t]:=by
      have:((l.map tokP).length:Int)=1:=beq_iff_eq.1 hl
      rw [List.length_map] at this;exact List.length_eq_one_iff.1 (by omega)
    have he:er=0:=beq_iff_eq.1 he;refine ⟨⟨by omega,by show (0:Int)<1;omega⟩,bifP (λhk=>⟨⟨by omega,by show (0:Int)<1;omega⟩,?_⟩) λhk=>nam λhh=>?_⟩
    · have hk:t.kind=1:=beq_iff_eq.1 hk
      show (t.text==s)=Lx.q03 s;by_cases ht:t.text=s
      · rw [hno t er a rfl he hk ht];exact beq_iff_eq.2 ht
      · rw [beq_eq_false_iff_ne.2 ht]
        refine nam λhh=>ht ?_
        have:=hyes hh
        simp at this;rw [this.1]
    · have:=hyes hh
      simp at this;exact (beq_eq_false_iff_ne.1 hk) (by show t.kind=1;rw [this.1])
  · have:=hyes hh
    simp at this;rw [this.1] at hl;exact (beq_eq_false_iff_ne.1 hl) rfl
  · have:=hyes hh
    simp at this;exact (beq_eq_false_iff_ne.1 he) this.2.1
set_option maxRecDepth 100000 in
theorem bet_vc (x y a b c d:Int) :
    [(x,y),(a,b),(c,d)].length≤(1000:Nat)∧bif ![(x,y),(a,b),(c,d)].all onB then false=betI (x,y) (a,b) (c,d) else bif x==a&&(y==b&&true) then true=betI (x,y) (a,
    b) (c,d) else bif x==c&&(y==d&&true) then true=betI (x,y) (a,b) (c,d) else (onB (a,b)=true∧onB (c,d)=true)∧(q3m (a,b,c,d,c-a,d-b)∧onB (x,y)=true) ∧
    bif q1a (a,b,c,d,c-a,d-b) (x,y)==(0:Int) then (onB (x,y)=true∧onB (a,b)=true)∧(onB (x,y)=true∧onB (c,d)=true)∧VecOk ((a-x,b-y),c-x,d-y) ∧
    decide ((a-x)*(c-x)+(b-y)*(d-y)<(0:Int))=betI (x,y) (a,b) (c,d) else false=betI (x,y) (a,b) (c,d)
     := by
  have e:[(x,y),(a,b),(c,d)].all onB=(onB (x,y)&&(onB (a,b)&&onB (c,d))):=by simp only [List.all_cons,List.all_nil,Bool.and_true]
  simp only [e,Bool.and_true];refine ⟨by simp,bifP (λhb=>?_) λhb=>?_⟩
  · unfold betI
    rw [show (onB (x,y)&&(onB (a,b)&&onB (c,d)))=false from by rw [Bool.not_eq_true'] at hb;exact hb,Bool.false_and]
  · have hb:(onB (x,y)&&(onB (a,b)&&onB (c,d)))=true:=by simpa using hb
    have hB:betI (x,y) (a,b) (c,d)=(((x,y)==(a,b)||(x,y)==(c,d))||(q0a (a,b) (c,d) (x,y)==0&&decide ((a-x)*(c-x)+(b-y)*(d-y)<0))):=by
      unfold betI;rw [hb,Bool.true_and]
    have e1:((x,y)==(a,b))=(x==a&&y==b):=rfl;have e2:((x,y)==(c,d))=(x==c&&y==d):=rfl;rw [hB,e1,e2];simp only [Bool.and_eq_true] at hb;refine bifP (λh1=>by rw [h1];rfl) λh1=>bifP (λh2=>by rw [h1,h2];rfl) λh2=>⟨⟨hb.2.1,hb.2.2⟩,⟨seg_ok hb.2.1 hb.2.2,hb.1⟩,?_⟩
    rw [h1,h2,Bool.false_or,Bool.false_or];have hs:(q1a (a,b,c,d,c-a,d-b) (x,y)==0)=(q0a (a,b) (c,d) (x,y)==0):=by
      rw [show q1a (a,b,c,d,c-a,d-b) (x,y)=sgn (q0a (a,b) (c,d) (x,y)) from rfl];unfold sgn;rw [Bool.eq_iff_iff,beq_iff_eq,beq_iff_eq];constructor
      · intro h;split at h <;> (try split at h) <;> omega
      · intro h;rw [h];rfl
    rw [hs];have g1:=Zl.q0x hb.1;have g2:=Zl.q0x hb.2.1;have g3:=Zl.q0x hb.2.2;dsimp only at g1 g2 g3;refine bifP (λh3=>⟨⟨hb.1,hb.2.1⟩,⟨hb.1,hb.2.2⟩,⟨?_,?_,?_,?_⟩,by rw [h3,Bool.true_and]⟩) λh3=>by rw [h3,Bool.false_and]
    all_goals (dsimp only;omega)
abbrev q4y (a:Int) (b:Int) (c:Int) (d:Int) (e:Int) (f:Int) (x:Int) (y:Int):Prop :=
 ((e=e∧f=f∧x=x∧y=y∧x-e=x-e∧y-f=y-f∧True)∧(a=a∧b=b∧c=c∧d=d∧c-a=c-a∧d-b=d-b∧True)∧(x=x∧y=y∧True)∧(e=e∧f=f∧True)∧(c=c∧d=d∧True)∧(a=a∧b=b∧True)∧True)
abbrev q70 (a:Int) (b:Int) (c:Int) (d:Int) (e:Int) (f:Int) (x:Int) (y:Int):Prop :=
 ((a=a∧b=b∧True)∧(c=c∧d=d∧True)∧(e=e∧f=f∧True)∧(x=x∧y=y∧True)∧(a=a∧b=b∧c=c∧d=d∧c-a=c-a∧d-b=d-b∧True)∧(e=e∧f=f∧x=x∧y=y∧x-e=x-e∧y-f=y-f∧True)∧True)
abbrev qfi (a:Int) (b:Int) (c:Int) (d:Int) (e:Int) (f:Int) (x:Int) (y:Int):Prop :=
 ((q3m (e,f,x,y,x-e,y-f)∧onB (a,b)=true)∧(q3m (e,f,x,y,x-e,y-f)∧onB (c,d)=true)∧(zFit (q1a (e,f,x,y,x-e,y-f) (a,b)*q1a (e,f,x,y,x-e,y-f) (c,d)))∧∃ (p':Unit),True∧(decide (q1a (e,f,x,y,x-e,y-f) (a,b)*q1a (e,f,x,y,x-e,y-f) (c,d)<(0:Int))=q2q (e,f) (x,y) (a,b) (c,d)∧True)∧(q70 a b c d e f x y)∧True∧True∧True∧(True∧True∧True∧True∧true=true∧True)∧True∧True∧True∧True)
abbrev qes (a:Int) (b:Int) (c:Int) (d:Int) (e:Int) (f:Int) (x:Int) (y:Int):Prop :=
 ((q3m (a,b,c,d,c-a,d-b)∧onB (e,f)=true)∧(q3m (a,b,c,d,c-a,d-b)∧onB (x,y)=true)∧(zFit (q1a (a,b,c,d,c-a,d-b) (e,f)*q1a (a,b,c,d,c-a,d-b) (x,y)))∧∃ (p':Unit),True∧(decide (q1a (a,b,c,d,c-a,d-b) (e,f)*q1a (a,b,c,d,c-a,d-b) (x,y)<(0:Int))=q2q (a,b) (c,d) (e,f) (x,y)∧True)∧(q70 a b c d e f x y)∧True∧True∧True∧(True∧True∧True∧True∧True∧True)∧True∧True∧True∧True)
abbrev q50:Prop :=
 (True∧True∧True∧True∧(0:Int)=0∧True∧True∧True)
abbrev qba (a:Int) (b:Int) (c:Int) (d:Int) (e:Int) (f:Int) (x:Int) (y:Int):Prop :=
 ((onB (e,f)=true∧onB (x,y)=true)∧q50∧(q4y a b c d e f x y)∧True∧True∧True∧True∧True∧True∧True∧True)
set_option maxRecDepth 100000 in
theorem cross_vc (a b c d e f x y:Int) (h:cCross.pre ((a,b),(c,d),(e,f),(x,y))) :
  (((onB (a,b)=true∧onB (c,d)=true)∧((onB (e,f)=true∧onB (x,y)=true)∧(q50∧(q4y a b c d e f x y)∧True∧True∧True∧True∧True∧True∧True∧True)∧q50∧(q4y a b c d e f x y)∧True∧True∧True∧True∧True∧True∧True∧True)∧((qba a b c d e f x y)∧(onB (e,f)=true∧onB (x,y)=true)∧q50∧(q4y a b c d e f x y)∧True∧True∧True∧True∧True∧True∧True∧True)∧(qba a b c d e f x y)∧(onB (e,f)=true∧onB (x,y)=true)∧q50∧(q4y a b c d e f x y)∧True∧True∧True∧True∧True∧True∧True∧True)∧(((onB (a,b)=true∧onB (c,d)=true)∧(qba a b c d e f x y)∧(onB (e,f)=true∧onB (x,y)=true)∧q50∧(q4y a b c d e f x y)∧True∧True∧True∧True∧True∧True∧True∧True)∧(onB (a,b)=true∧onB (c,d)=true)∧(onB (e,f)=true∧onB (x,y)=true)∧q50∧(q4y a b c d e f x y)∧True∧True∧True∧True∧True∧True∧True∧True)∧((onB (a,b)=true∧onB (c,d)=true)∧(qba a b c d e f x y)∧(onB (e,f)=true∧onB (x,y)=true)∧q50∧(q4y a b c d e f x y)∧True∧True∧True∧True∧True∧True∧True∧True)∧(onB (a,b)=true∧onB (c,d)=true)∧(onB (e,f)=true∧onB (x,y)=true)∧q50∧(q4y a b c d e f x y)∧True∧True∧True∧True∧True∧True∧True∧True)∧[(a,b),(c,d),(e,f),(x,y)].length≤(1000:Nat)∧bif ![(a,b),(c,d),(e,f),(x,y)].all onB then (0:Int)=q0j (a,b) (c,d) (e,f) (x,y) else True∧bif betI (a,b) (e,f) (x,y) then (1:Int)=q0j (a,b) (c,d) (e,f) (x,y) else True∧bif betI (c,d) (e,f) (x,y) then (1:Int)=q0j (a,b) (c,d) (e,f) (x,y) else True∧bif betI (e,f) (a,b) (c,d) then (1:Int)=q0j (a,b) (c,d) (e,f) (x,y) else True∧bif betI (x,y) (a,b) (c,d) then (1:Int)=q0j (a,b) (c,d) (e,f) (x,y) else ((qes a b c d e f x y)∧((qes a b c d e f x y)∧(q3m (a,b,c,d,c-a,d-b)∧onB (e,f)=true)∧(q3m (a,b,c,d,c-a,d-b)∧onB (x,y)=true)∧(zFit (q1a (a,b,c,d,c-a,d-b) (e,f)*q1a (a,b,c,d,c-a,d-b) (x,y)))∧∃ (p':Unit),True∧(decide (q1a (a,b,c,d,c-a,d-b) (e,f)*q1a (a,b,c,d,c-a,d-b) (x,y)<(0:Int))=q2q (a,b) (c,d) (e,f) (x,y)∧True)∧(q70 a b c d e f x y)∧True∧True∧True∧(True∧True∧True∧True∧True∧True)∧True∧True∧True∧True)∧(qes a b c d e f x y)∧(q3m (a,b,c,d,c-a,d-b)∧onB (e,f)=true)∧(q3m (a,b,c,d,c-a,d-b)∧onB (x,y)=true)∧(zFit (q1a (a,b,c,d,c-a,d-b) (e,f)*q1a (a,b,c,d,c-a,d-b) (x,y)))∧∃ (p':Unit),True∧(decide (q1a (a,b,c,d,c-a,d-b) (e,f)*q1a (a,b,c,d,c-a,d-b) (x,y)<(0:Int))=q2q (a,b) (c,d) (e,f) (x,y)∧True)∧(q70 a b c d e f x y)∧True∧True∧True∧(True∧True∧True∧True∧True∧True)∧True∧True∧True∧True)∧∀ (p:Unit),True→bif q2q (a,b) (c,d) (e,f) (x,y) then ((qfi a b c d e f x y)∧((qfi a b c d e f x y)∧(q3m (e,f,x,y,x-e,y-f)∧onB (a,b)=true)∧(q3m (e,f,x,y,x-e,y-f)∧onB (c,d)=true)∧(zFit (q1a (e,f,x,y,x-e,y-f) (a,b)*q1a (e,f,x,y,x-e,y-f) (c,d)))∧∃ (p':Unit),True∧(decide (q1a (e,f,x,y,x-e,y-f) (a,b)*q1a (e,f,x,y,x-e,y-f) (c,d)<(0:Int))=q2q (e,f) (x,y) (a,b) (c,d)∧True)∧(q70 a b c d e f x y)∧True∧True∧True∧(True∧True∧True∧True∧true=true∧True)∧True∧True∧True∧True)∧(qfi a b c d e f x y)∧(q3m (e,f,x,y,x-e,y-f)∧onB (a,b)=true)∧(q3m (e,f,x,y,x-e,y-f)∧onB (c,d)=true)∧(zFit (q1a (e,f,x,y,x-e,y-f) (a,b)*q1a (e,f,x,y,x-e,y-f) (c,d)))∧∃ (p':Unit),True∧(decide (q1a (e,f,x,y,x-e,y-f) (a,b)*q1a (e,f,x,y,x-e,y-f) (c,d)<(0:Int))=q2q (e,f) (x,y) (a,b) (c,d)∧True)∧(q70 a b c d e f x y)∧True∧True∧True∧(True∧True∧True∧True∧true=true∧True)∧True∧True∧True∧True)∧∀ (p:Unit),True→bif q2q (e,f) (x,y) (a,b) (c,d) then (2:Int)=q0j (a,b) (c,d) (e,f) (x,y) else (0:Int)=q0j (a,b) (c,d) (e,f) (x,y) else (0:Int)=q0j (a,b) (c,d) (e,f) (x,y):=by
 delta q4y q70 qfi qes q50 qba zFit
 have h:onB (a,b)=true∧onB (c,d)=true∧onB (e,f)=true∧onB (x,y)=true:=h;obtain ⟨h1,h2,h3,h4⟩:=h;have s1:=seg_ok h1 h2;have s2:=seg_ok h3 h4;have e0:[(a,b),(c,d),(e,f),(x,y)].all onB=true:=by simp only [List.all_cons,List.all_nil,Bool.and_true,h1,h2,h3,h4]
 have hs:∀ (s t:Int),(-9223372036854775808:Int)≤sgn s*sgn t∧sgn s*sgn t≤(9223372036854775807:Int):=λs t=>by
  unfold sgn;split <;> (try split) <;> (try split) <;> (try split) <;> omega
 have f1:∀ p q:P2,q1a (a,b,c,d,c-a,d-b) p*q1a (a,b,c,d,c-a,d-b) q=sgn (q0a (a,b) (c,d) p)*sgn (q0a (a,b) (c,d) q):=λp q=>rfl
 have f2:∀ p q:P2,q1a (e,f,x,y,x-e,y-f) p*q1a (e,f,x,y,x-e,y-f) q=sgn (q0a (e,f) (x,y) p)*sgn (q0a (e,f) (x,y) q):=λp q=>rfl
 have p1:decide (sgn (q0a (a,b) (c,d) (e,f))*sgn (q0a (a,b) (c,d) (x,y))<0)=q2q (a,b) (c,d) (e,f) (x,y):=rfl;have p2:decide (sgn (q0a (e,f) (x,y) (a,b))*sgn (q0a (e,f) (x,y) (c,d))<0)=q2q (e,f) (x,y) (a,b) (c,d):=rfl;have s1':q3m (a,b,c,d,c-a,d-b):=s1;have s2':q3m (e,f,x,y,x-e,y-f):=s2;have hc:q0j (a,b) (c,d) (e,f) (x,y)=if betI (a,b) (e,f) (x,y)||(betI (c,d) (e,f) (x,y)||(betI (e,f) (a,b) (c,d)||betI (x,y) (a,b) (c,d))) then 1 else if q2q (a,b) (c,d) (e,f) (x,y)&&q2q (e,f) (x,y) (a,b) (c,d) then 2 else 0:=by
  unfold q0j;rw [h1,h2,h3,h4];rfl
 rw [hc];simp only [and_self,true_and,eq_self,exists_const,forall_const,h1,h2,h3,h4,e0,s1',s2',f1,f2,hs,p1,p2,Bool.not_true,cond_false];cases betI (a,b) (e,f) (x,y) <;> cases betI (c,d) (e,f) (x,y) <;> cases betI (e,f) (a,b) (c,d) <;> cases betI (x,y) (a,b) (c,d) <;> cases q2q (a,b) (c,d) (e,f) (x,y) <;> cases q2q (e,f) (x,y) (a,b) (c,d) <;> simp
end Go.Proofs.YtednmlmllbkhhaaGreatDoor
namespace Go.Proofs.YtednmlmllbkhhaaGreatDoor
open Go.RowKit
structure Scan (w:World) (b:Nat) (s:ByteArray):Prop where
 text:w.cell? ⟨b,0,none⟩=some (.string s)
 cls:∀ c:UInt8,w.cell? ⟨b,1+c.toNat,none⟩=some (.int .i64 (Lx.cls c:Nat))
theorem Scan.drewN {w:World} {b:Nat} {s:ByteArray} (h:Scan w b s) (n:Nat):Scan (w.drewN n) b s:=⟨h.text,h.cls⟩
theorem Scan.below {B:Nat} {w w':World} {b:Nat} {s:ByteArray} (h:Scan w b s) (hb:Below B w w') (hB:b<B):Scan w' b s :=
 ⟨(hb.cell (p:=⟨b,0,none⟩) hB).trans h.text,λc=>(hb.cell (p:=⟨b,1+c.toNat,none⟩) hB).trans (h.cls c)⟩
theorem Scan.alloc {w:World} {b:Nat} {s:ByteArray} (h:Scan w b s) (hB:b<w.heap.size) (o:Obj):Scan (w.alloc o) b s :=
 h.below ((Below.refl w.heap.size w).alloc (Nat.le_refl _) o) hB
set_option maxHeartbeats 400000 in
theorem at_ge (b:Nat) (s:ByteArray) (i:Int) (w:World) (hs:s.size≤9223372036854775807) (hi:(s.size:Int)≤i)
   (h0:w.cell? ⟨b,0,none⟩=some (.string s)) :
    Calls Tryz.prog 99 #[.pointer (some ⟨b,0,none⟩),.int .i64 i] w λe w'=>e=.returned (.int .i64 0)∧w=w':=by
  go_enter Tryz.func99,Tryz.ntmps99
  go_wp2
  go_ret
  exact ⟨rfl,rfl⟩
set_option maxHeartbeats 400000 in
theorem at_lt (b:Nat) (s:ByteArray) (i:Nat) (w:World) (hs:s.size≤9223372036854775807) (hi:i<s.size)
   (h0:w.cell? ⟨b,0,none⟩=some (.string s)) (hc:w.cell? ⟨b,1+s[i].toNat,none⟩=some (.int .i64 (Lx.cls s[i]:Nat))) :
    Calls Tryz.prog 99 #[.pointer (some ⟨b,0,none⟩),.int .i64 i] w λe w'=>e=.returned (.int .i64 (Lx.cls s[i]:Nat))∧∃ n,w'=w.drewN n:=by
  have hb:s[i].toNat<256:=UInt8.toNat_lt s[i]
  go_enter Tryz.func99,Tryz.ntmps99
  go_wp2
  go_quiet (fail)
  go_wp2
  go_ret
  exact ⟨rfl,_,rfl⟩
theorem q5k (b:Nat) (s:ByteArray) (i:Int) (w:World) (hs:s.size≤9223372036854775807) (hi:0≤i) (h:Scan w b s) :
  Calls Tryz.prog 99 #[.pointer (some ⟨b,0,none⟩),.int .i64 i] w λe w' =>
   e=.returned (.int .i64 (Lx.q25 (s.data.toList.drop i.toNat):Nat))∧∃ n,w'=w.drewN n:=by
 obtain ⟨k,rfl⟩:=Int.eq_ofNat_of_zero_le hi;rw [Int.toNat_natCast];by_cases hlt:k<s.size
 ·rw [q1r s k hlt]
  exact at_lt b s k w hs hlt h.text (h.cls _)
 ·have hd:s.data.toList.drop k=[]:=List.drop_eq_nil_of_le (by rw [← q0l];omega)
  rw [hd];exact (at_ge b s k w hs (by omega) h.text).mono λe w' ⟨he,hw⟩=>⟨he,0,hw.symm⟩
def among (zs:List Int) (c:UInt8):Bool:=zs.contains (Lx.cls c:Nat)
theorem q4d {p:UInt8→Bool} {c:UInt8} {l:List UInt8} (h:p c=true):Lx.span p (c::l)=Lx.span p l+1:=by
 simp [Lx.span,h]
theorem q7a {p:UInt8→Bool} {c:UInt8} {l:List UInt8} (h:p c=false):Lx.span p (c::l)=0:=by
 simp [Lx.span,h]
theorem qhz (p:UInt8→Bool) (l:List UInt8):Lx.span p l≤l.length:=by
 induction l with
 | nil=>simp [Lx.span]
 | cons c r ih =>
  cases h:p c
  ·rw [q7a h];omega
  ·rw [q4d h,List.length_cons];omega
set_option maxHeartbeats 1000000 in
theorem qce (b:Nat) (s:ByteArray) (i:Nat) (bk n c:Nat) (zs:List Int) (w:World) (hs:s.size≤4611686018427387904) (hi:i≤s.size) (h:Scan w b s)
  (hn:n=zs.length) (hn1:0<n) (hn2:n≤100) (hz:∀ j,j<zs.length→w.cell? ⟨bk,0+j,none⟩=some (.int .i64 (zs.getD j 0))) :
  Calls Tryz.prog 98 #[.pointer (some ⟨b,0,none⟩),.int .i64 i,.slice (some ⟨bk,0,none⟩) n c] w λe w' =>
   e=.returned (.int .i64 (i+Lx.span (among zs) (s.data.toList.drop i):Nat))∧∃ m,w'=w.drewN m:=by
 have htake:zs.take n=zs:=List.take_of_length_le (by omega)
 have HT:=Lib.hid htake;clear htake;have HZ:=Lib.hid hz;clear hz;have HN:=Lib.hid hn;have hnz:n≤zs.length:=by omega
 clear hn
 go_enter Tryz.func98,Tryz.ntmps98
 go_wp2
 go_loopw [1] (λv wr=>∃ k m:Nat,k≤s.size∧v=.int .i64 k∧wr=w.drewN m∧i+Lx.span (among zs) (s.data.toList.drop i)=k+Lx.span (among zs) (s.data.toList.drop k)) (λv _=>s.size-(intOf v).toNat)
 case atStart=>exact ⟨i,0,hi,rfl,rfl,rfl⟩
 case round =>
  obtain ⟨k,m,hk,rfl,rfl,hrest⟩:=hrel;have HR:=Lib.hid hrest;clear hrest;have h0:=h.text;by_cases hlt:k<s.size
  ·have hc:=q1r s k hlt
   have HC:=Lib.hid hc;clear hc
   go_wp2_with fail
   refine (q5k b s k _ (by omega) (by omega) (h.drewN m)).mono ?_
   rintro e w' ⟨rfl,m1,rfl⟩;rw [Int.toNat_natCast,HC.out]
   go_wp2_with fail
   refine (Tryz.slices_Contains_int bk 0 n c zs _ _ hnz (by omega) (by exact HZ.out)).mono ?_
   rintro e w' ⟨rfl,rfl⟩;rw [HT.out];have hx:zs.contains ((Lx.q25 (s[k]::List.drop (k+1) s.data.toList):Nat):Int)=among zs s[k]:=rfl;rw [hx];clear hx;cases hq:among zs s[k]
   ·go_wp2
    go_ret
    refine ⟨?_,_,rfl⟩;rw [HR.out,HC.out,q7a hq];rfl
   ·go_wp2
    go_roundw
    case rel=>
     refine ⟨k+1,_,by omega,by go_num,rfl,?_⟩
     rw [HR.out,HC.out,q4d hq];omega
    case measure=>simp [intOf];omega
  ·go_wp2
   go_ret
   refine ⟨?_,_,rfl⟩;rw [HR.out];have hd:s.data.toList.drop k=[]:=List.drop_eq_nil_of_le (by rw [← q0l];omega)
   rw [hd];rfl
namespace Lx
theorem qgo (c:UInt8):(cls c==1)=q2l c:=by
 have H:∀ c:Fin 256,(cls (UInt8.ofNat c.val)==1)=q2l (UInt8.ofNat c.val):=by decide +kernel
 have h:=H ⟨c.toNat,UInt8.toNat_lt c⟩
 simpa using h
theorem qk3 (c:UInt8):(cls c==2)=(c==35):=by
 have H:∀ c:Fin 256,(cls (UInt8.ofNat c.val)==2)=(UInt8.ofNat c.val==35):=by decide +kernel
 have h:=H ⟨c.toNat,UInt8.toNat_lt c⟩
 simpa using h
theorem gap_blank (l:List UInt8):gap l=span q2l l+gap (l.drop (span q2l l)):=by
 induction l with
 | nil=>simp [span,gap,gapc]
 | cons c r ih =>
  cases h:q2l c
  ·rw [q7a h];simp
  ·rw [q4d h]
   have:gap (c::r)=gap r+1:=by simp [gap,gapc,h]
   rw [this,ih];simp only [List.drop_succ_cons];omega
theorem qkk (l:List UInt8):q25 (l.drop (span q2l l))≠1:=by
 induction l with
 | nil=>simp [span,q25]
 | cons c r ih =>
  cases h:q2l c
  ·rw [q7a h]
   intro e;have:=qgo c;simp only [List.drop_zero,q25] at e;rw [e,h] at this;cases this
  ·rw [q4d h]
   exact ih
theorem gap_not (l:List UInt8) (h1:q25 l≠1) (h2:q25 l≠2):gap l=0:=by
 cases l with
 | nil=>rfl
 | cons c r =>
  have hb:q2l c=false:=by rw [← qgo];simpa [q25] using h1
  have hh:(c==35)=false:=by rw [← qk3];simpa [q25] using h2
  simp only [gap,gapc,hb,hh,Bool.false_eq_true,if_false]
theorem gap_hash (l:List UInt8) (h2:q25 l=2):gap l=gapc true l:=by
 cases l with
 | nil=>cases h2
 | cons c r =>
  have hh:(c==35)=true:=by rw [← qk3];simpa [q25] using h2
  obtain rfl:c=35:=by simpa using hh
  show gapc false (35::r)=gapc true (35::r);rfl
theorem gapc_none (l:List UInt8) (h:Lib.indexByte l 10<0):gapc true l=l.length:=by
 induction l with
 | nil=>rfl
 | cons c r ih =>
  unfold Lib.indexByte at h;have hge:=Lib.indexByte_ge r 10;by_cases hc:(c==10)=true
  ·rw [if_pos hc] at h;omega
  ·rw [if_neg hc] at h
   by_cases hr:(Lib.indexByte r 10==-1)=true
   ·have hr':Lib.indexByte r 10=-1:=by simpa using hr
    have:=ih (by omega)
    simp only [gapc,hc,Bool.false_eq_true,if_false,this,List.length_cons]
   ·rw [if_neg hr] at h
    have hr':Lib.indexByte r 10≠-1:=by simpa using hr
    omega
theorem gapc_some (l:List UInt8) (h:0≤Lib.indexByte l 10):(Lib.indexByte l 10).toNat≤l.length∧gapc true l=(Lib.indexByte l 10).toNat+gap (l.drop (Lib.indexByte l 10).toNat):=by
 induction l with
 | nil=>exact absurd h (by decide)
 | cons c r ih =>
  unfold Lib.indexByte at h ⊢;have hge:=Lib.indexByte_ge r 10;by_cases hc:(c==10)=true
  ·rw [if_pos hc]
   obtain rfl:c=10:=by simpa using hc
   refine ⟨Nat.zero_le _,?_⟩;show gapc true (10::r)=0+gapc false (10::r);simp [gapc,q2l]
  ·rw [if_neg hc] at h ⊢
   by_cases hr:(Lib.indexByte r 10==-1)=true
   ·rw [if_pos hr] at h;omega
   ·rw [if_neg hr] at h ⊢
    have hr':Lib.indexByte r 10≠-1:=by simpa using hr
    have h0:0≤Lib.indexByte r 10:=by omega
    obtain ⟨ih1,ih2⟩:=ih h0;have e:(Lib.indexByte r 10+1).toNat=(Lib.indexByte r 10).toNat+1:=by omega
    rw [e];refine ⟨by simpa using ih1,?_⟩
    simp only [gapc,hc,Bool.false_eq_true,if_false,List.drop_succ_cons];omega
theorem hash_pos (l:List UInt8) (h:q25 l=2):Lib.indexByte l 10≠0:=by
 cases l with
 | nil=>cases h
 | cons c r =>
  have hh:(c==35)=true:=by rw [← qk3];simpa [q25] using h
  obtain rfl:c=35:=by simpa using hh
  have hge:=Lib.indexByte_ge r 10;unfold Lib.indexByte;rw [if_neg (by decide)]
  split
  ·omega
  ·rename_i h2
   have h2':Lib.indexByte r 10≠-1:=by simpa using h2
   omega
end Lx
theorem qin:among [1]=Lx.q2l:=by
 funext c
 rw [← Lx.qgo];have h:∀ n:Nat,([1]:List Int).contains (n:Int)=(n==1):=by
  intro n;rw [Bool.eq_iff_iff];simp;omega
 exact h _
theorem qg6 (w:World) (bk:Nat) (hbk:bk=w.heap.size) (x:Int) (t:TypeId):∀ j,j<[x].length→(w.alloc (.cells #[.int .i64 x] t)).cell? ⟨bk,0+j,none⟩=some (.int .i64 ([x].getD j 0)):=by
 intro j hj;subst hbk;obtain rfl:j=0:=by simpa using hj
 simp [World.cell?_alloc_at]
set_option maxHeartbeats 1000000 in
theorem gap_any (b:Nat) (s:ByteArray) (i:Int) (w:World) (hs:s.size≤4611686018427387904) (hi0:0≤i) (hi:i≤s.size) (hb:b<w.heap.size) (h:Scan w b s) :
  Calls Tryz.prog 68 #[.pointer (some ⟨b,0,none⟩),.int .i64 i] w λe w' =>
   e=.returned (.int .i64 (i.toNat+Lx.gap (s.data.toList.drop i.toNat):Nat))∧Below w.heap.size w w':=by
 obtain ⟨i,rfl⟩:=Int.eq_ofNat_of_zero_le hi0;rw [Int.toNat_natCast];have hi':i≤s.size:=by omega
 clear hi hi0
 go_enter Tryz.func68,Tryz.ntmps68
 go_wp2_with fail
 refine (qce b s i _ 1 1 [1] _ hs hi' (by exact h.below ((Below.refl w.heap.size w).alloc (Nat.le_refl _) _) hb) rfl (by omega) (by omega) (by exact qg6 w _ rfl 1 _)).mono ?_
 rintro e w' ⟨rfl,m,rfl⟩;rw [qin];have hg:=Lx.gap_blank (s.data.toList.drop i);have hst:=Lx.qkk (s.data.toList.drop i);have hle:=qhz Lx.q2l (s.data.toList.drop i);rw [List.drop_drop] at hg hst;rw [List.length_drop,← q0l] at hle;have HG:=Lib.hid hg;have HST:=Lib.hid hst;clear hg hst;generalize Lx.span Lx.q2l (s.data.toList.drop i)=n0 at *
 have hb0:Below w.heap.size w ((w.alloc (.cells #[.int .i64 1] 3)).drewN m):=belN ((Below.refl w.heap.size w).alloc (Nat.le_refl _) _) m
 go_wp2
 go_loopw [1,5] (λv _ wr=>∃ k:Nat,k≤s.size∧v=.int .i64 k∧Below w.heap.size w wr∧i+Lx.gap (s.data.toList.drop i)=k+Lx.gap (s.data.toList.drop k)∧Lx.q25 (s.data.toList.drop k)≠1) (λv _ _=>s.size-(intOf v).toNat)
 case atStart=>exact ⟨i+n0,by omega,by go_num,hb0,by rw [HG.out];omega,HST.out⟩
 case round =>
  obtain ⟨k,hk,rfl,hbr,hrest,hst⟩:=hrel;clear HG HST hb0;have HR:=Lib.hid hrest;clear hrest;have HST:=Lib.hid hst;clear hst;have hSr:=h.below hbr hb;have hsz:=hbr.size
  go_wp2_with fail
  refine (q5k b s k _ (by omega) (by omega) hSr).mono ?_
  rintro e w' ⟨rfl,m1,rfl⟩;rw [Int.toNat_natCast];by_cases hc:Lx.q25 (s.data.toList.drop k)=2
  ·rw [hc]
   have hlt:k<s.size:=by
    rcases Nat.lt_or_ge k s.size with hlt | hge
    ·exact hlt
    ·rw [List.drop_eq_nil_of_le (by rw [← q0l];exact hge)] at hc;cases hc
   have h0:=hSr.text;have HGH:=Lib.hid (Lx.gap_hash _ hc);have hpos:=Lx.hash_pos _ hc;have HC:=Lib.hid hc;clear hc
   go_wp2_with fail
   refine (Tryz.strings_IndexByte _ _ _).mono ?_;rintro e w' ⟨rfl,rfl⟩;have hdl:(s.extract k s.size).data.toList=s.data.toList.drop k:=by
    rw [q3v,bs_list];exact List.take_of_length_le (by rw [List.length_drop,← q0l];omega)
   rw [hdl];clear hdl;have h10:(Int.toNat 10).toUInt8=10:=rfl;rw [h10];clear h10;have hge:=Lib.indexByte_ge (s.data.toList.drop k) 10;by_cases hneg:Lib.indexByte (s.data.toList.drop k) 10<0
   ·have hnone:=Lib.hid (Lx.gapc_none _ hneg)
    generalize Lib.indexByte (s.data.toList.drop k) 10=o at *
    go_wp2
    go_ret
    refine ⟨?_,belN hbr _⟩;rw [HR.out,HGH.out,hnone.out,List.length_drop,← q0l];exact ret_int (by omega)
   ·have hs2:=Lx.gapc_some (s.data.toList.drop k) (by omega)
    obtain ⟨hs2,hs3⟩:=hs2;rw [List.length_drop,← q0l] at hs2;rw [List.drop_drop] at hs3;have HS3:=Lib.hid hs3;clear hs3;generalize Lib.indexByte (s.data.toList.drop k) 10=o at *
    obtain ⟨q,rfl⟩:=Int.eq_ofNat_of_zero_le (show 0≤o by omega)
    have hq:q≤s.size-k:=by simpa using hs2
    have hq1:1≤q:=by omega
    have hq2:Lx.gapc true (s.data.toList.drop k)=q+Lx.gap (s.data.toList.drop (k+q)):=HS3.out;have HQ2:=Lib.hid hq2;clear HS3 hq2 hs2 hge hneg hpos
    go_wp2_with fail
    have hkq:(k:Int)+q=((k+q:Nat):Int):=by omega
    rw [hkq];clear hkq;refine (qce b s (k+q) _ 1 1 [1] _ hs (by omega) (by exact (hSr.drewN _).below ((Below.refl _ _).alloc (Nat.le_refl _) _) (by simp;omega)) rfl (by omega) (by omega) (by exact qg6 (wr.drewN m1) _ rfl 1 _)).mono ?_
    rintro e w' ⟨rfl,m2,rfl⟩;rw [qin];have hg:=Lx.gap_blank (s.data.toList.drop (k+q));have hst:=Lx.qkk (s.data.toList.drop (k+q));have hle:=qhz Lx.q2l (s.data.toList.drop (k+q));rw [List.drop_drop] at hg hst;rw [List.length_drop,← q0l] at hle;have HG:=Lib.hid hg;have HST:=Lib.hid hst;clear hg hst;generalize Lx.span Lx.q2l (s.data.toList.drop (k+q))=n1 at *
    go_wp2
    go_roundw
    case rel =>
     refine ⟨k+q+n1,by omega,by go_num,?_,?_,HST.out⟩
     ·exact belN ((belN hbr m1).alloc (by simpa using hsz) _) m2
     ·rw [HR.out,HGH.out,HQ2.out,HG.out]
      omega
    case measure=>simp [intOf];omega
  ·have hg0:=Lib.hid (Lx.gap_not _ HST.out hc)
   have hcn:((Lx.q25 (s.data.toList.drop k):Int)==2)=false:=by
    rw [beq_eq_false_iff_ne];omega
   clear hc;generalize Lx.q25 (s.data.toList.drop k)=cc at *
   go_wp2
   go_ret
   refine ⟨?_,belN hbr _⟩;rw [HR.out,hg0.out];rfl
set_option maxRecDepth 100000 in
set_option maxHeartbeats 1000000 in
theorem qkt (s:ByteArray) (hs:s.size=2) (w:World) (ha:∀ (j:Nat) (h:j<s.size),(s[j]'h).toNat<128) :
  Calls Tryz.prog 123 #[.string s,.int .i32 65533] w λe w'=>e=.returned (.int .i64 (-1))∧Below w.heap.size w w':=by
 have HS:=Lib.hid hs;have HA:=Lib.hid ha;clear ha;have hs2:s.size≤2:=by omega
 clear hs
 go_enter Tryz.func123,Tryz.ntmps123
 go_wp2
 go_loopg [5,6] 2 (λg _ _ wx=>∃ i:Nat,i+g=2∧wx=w.iter s i)
 case atStart=>exact ⟨0,rfl,rfl⟩
 case round =>
  obtain ⟨i,hig,rfl⟩:=hrel;cases gk with
  | zero =>
   have hnx:=λty=>run_next_end (P:=Tryz.prog) w s i ty (by rw [HS.out];omega)
   go_wp2
   go_ret
   exact ⟨rfl,(Below.refl _ _).alloc (Nat.le_refl _) _⟩
  | succ g =>
   have hi:i<s.size:=by rw [HS.out];omega
   have hx128:=HA.out i hi;have hnx:=λty=>run_next_ascii (P:=Tryz.prog) w s i ty hi hx128
   generalize s[i]=x at *
   have hne:((x.toNat:Int)==65533)=false:=by rw [beq_eq_false_iff_ne];omega
   go_wp2
   go_roundg g
   case measure=>omega
   case rel=>exact ⟨i+1,by omega,rfl⟩
set_option maxRecDepth 100000 in
set_option maxHeartbeats 1000000 in
theorem ql6 (s:ByteArray) (hs:s.size=2) (r:Int) (w:World) (ha:∀ (j:Nat) (h:j<s.size),(s[j]'h).toNat<128) (h1:128≤r) (h2:Utf8.valid r=true) (h3:r≠65533) :
  Calls Tryz.prog 123 #[.string s,.int .i32 r] w λe w'=>e=.returned (.int .i64 (-1))∧Below w.heap.size w w':=by
 have HS:=Lib.hid hs;have HA:=Lib.hid ha;clear ha;have hs2:s.size≤2:=by omega
 have hs3:2≤s.size:=by omega
 clear hs;obtain ⟨e1,e2,e3⟩:=encode_facts r h2 h1;have hlt0:¬ r<128:=by omega
 have hnr:(r==65533)=false:=by rw [beq_eq_false_iff_ne];exact h3
 have hvr:Lib.validRune r=true:=by
  have e:=validRune_eq r;rw [h2] at e;exact e.symm
 clear h2
 go_enter Tryz.func123,Tryz.ntmps123
 go_wp2_with (first | (go_at_call 145;refine (Tryz.utf8_ValidRune _ _).mono ?_;rintro e w' ⟨rfl,rfl⟩))
 go_step3
 go_wp2
 generalize Utf8.encode r=rs at *
 obtain ⟨i,hi⟩:∃ i,rs.size=i+1:=⟨rs.size-1,by omega⟩
 have ei:(rs.size:Int)-1=(i:Int):=by omega
 rw [ei];clear ei;have hir:i<rs.size:=by omega
 have e4:128≤(rs[i]'hir).toNat:=by
  have e5:rs.size-1=i:=by omega
  simp only [e5] at e3;exact e3 hir
 clear e3;have hi1:1≤i:=by omega
 have HI:=Lib.hid hi;clear hi;refine wp_loop_rounds 1 ?_;rw [rounds_succ];by_cases h2:i<s.size
 ·have hne:((s[i].toNat:Int) != (rs[i].toNat:Int))=true:=by
   have a2:=HA.out i h2;rw [bne_iff_ne];omega
  have hz:Lib.indexByte (List.take (s.size-(i+1)) (List.drop (i+1) s.data.toList)) rs[i]=-1:=by
   rw [List.drop_eq_nil_of_le (by rw [← Lib.size_eq];omega),List.take_nil]
   rfl
  go_wp2
  go_step3
  go_wp2
  go_quiet (fail)
  go_wp2
  go_quiet ((go_at_call 100;exact qli (Tryz.strings_IndexByte _ _ _)))
  go_wp2
  repeat (first | rw [Exit.noGoto_ret] | simp only [Exit.inBlock,Exit.then])
  go_ret
  exact ⟨rfl,belN (Below.refl _ _) _⟩
 ·go_wp2
  repeat (first | rw [Exit.noGoto_ret] | simp only [Exit.inBlock])
  go_ret
  exact ⟨rfl,Below.refl _ _⟩
theorem ql8 (s:ByteArray) (hs:s.size=2) (r:Int) (w:World) (ha:∀ (j:Nat) (h:j<s.size),(s[j]'h).toNat<128) (h:r=65533∨(128≤r∧Utf8.valid r=true)) :
  Calls Tryz.prog 123 #[.string s,.int .i32 r] w λe w'=>e=.returned (.int .i64 (-1))∧Below w.heap.size w w':=by
 by_cases h3:r=65533
 ·subst h3;exact qkt s hs w ha
 ·rcases h with h | ⟨h1,h2⟩
  ·exact absurd h h3
  ·exact ql6 s hs r w ha h1 h2 h3
theorem decode_high (s:ByteArray) (i:Nat) (hi:i<s.size) (h:¬ (s[i]'hi).toNat<128) :
  1≤(Utf8.decode s i).2∧i+(Utf8.decode s i).2≤s.size∧((Utf8.decode s i).1=65533∨(128≤(Utf8.decode s i).1∧Utf8.valid (Utf8.decode s i).1=true)) ∧
   ∀ j (hj:j<s.size),i≤j→j<i+(Utf8.decode s i).2→¬ (s[j]'hj).toNat<128:=by
 have e:∀ k (hk:i+k<s.size),(s.get! (i+k)).toNat=(s[i+k]'hk).toNat:=λk hk=>by
  have:s.get! (i+k)=s[i+k]'hk:=by simp [ByteArray.get!,getElem!_pos,hk];rfl
  rw [this]
 have e0:(s.get! (i+0)).toNat=(s[i]'hi).toNat:=e 0 hi;have hb:∀ k,k<4→(decide (i+k<s.size)&&(s.get! (i+k)).toNat / 64==2)=true→∀ hj:i+k<s.size,¬ (s[i+k]'hj).toNat<128:=λk _ hc hj=>by
  rw [Bool.and_eq_true] at hc;have h2:(s.get! (i+k)).toNat / 64=2:=by simpa using hc.2
  rw [e k hj] at h2;omega
 have hl:∀ k,(decide (i+k<s.size)&&(s.get! (i+k)).toNat / 64==2)=true→i+k<s.size:=λk hc=>by
  rw [Bool.and_eq_true] at hc
  simpa using hc.1
 have one:∀ j (hj:j<s.size),i≤j→j<i+1→¬ (s[j]'hj).toNat<128:=λj hj h1 h2=>by
  obtain rfl:j=i:=by omega
  exact h
 have l0:(s[i]'hi).toNat<256:=UInt8.toNat_lt _;have l:∀ k,(s.get! k).toNat<256:=λk=>UInt8.toNat_lt _
 have l1:=l (i+1);have l2:=l (i+2);have l3:=l (i+3);unfold Utf8.decode;simp only [e0];rw [if_neg h];have bad:1≤1∧i+1≤s.size∧(Utf8.runeError=65533∨(128≤Utf8.runeError∧Utf8.valid (Utf8.runeError:Nat)=true))∧∀ j (hj:j<s.size),i≤j→j<i+1→¬ (s[j]'hj).toNat<128 :=
  ⟨by omega,by omega,.inl rfl,one⟩
 split
 ·rename_i h2
  rw [Bool.and_eq_true] at h2;have c1:=h2.2;split
  ·refine ⟨by simp,by have:=hl 1 c1;simp;omega,.inr ⟨by simp only [];omega,?_⟩,?_⟩
   ·simp only [Utf8.valid]
    simp;omega
   ·intro j hj h3 h4
    by_cases hj0:j=i
    ·subst hj0;exact h
    ·obtain rfl:j=i+1:=by simp only [] at h4;omega
     exact hb 1 (by omega) c1 hj
  ·exact bad
 ·split
  ·rename_i h2
   rw [Bool.and_eq_true,Bool.and_eq_true] at h2;have c1:=h2.1.2;have c2:=h2.2;split
   ·rename_i h5
    rw [Bool.and_eq_true] at h5;have h6:2048≤_:=of_decide_eq_true h5.1;refine ⟨by simp,by have:=hl 2 c2;simp;omega,.inr ⟨by simp only [];omega,by simpa using h5.2⟩,?_⟩
    intro j hj h3 h4;by_cases hj0:j=i
    ·subst hj0;exact h
    ·by_cases hj1:j=i+1
     ·subst hj1;exact hb 1 (by omega) c1 hj
     ·obtain rfl:j=i+2:=by simp only [] at h4;omega
      exact hb 2 (by omega) c2 hj
   ·exact bad
  ·split
   ·rename_i h2
    rw [Bool.and_eq_true,Bool.and_eq_true,Bool.and_eq_true] at h2;have c1:=h2.1.1.2;have c2:=h2.1.2;have c3:=h2.2;split
    ·rename_i h5
     rw [Bool.and_eq_true] at h5;have h6:65536≤_:=of_decide_eq_true h5.1;refine ⟨by simp,by have:=hl 3 c3;simp;omega,.inr ⟨by simp only [];omega,by simpa using h5.2⟩,?_⟩
     intro j hj h3 h4;by_cases hj0:j=i
     ·subst hj0;exact h
     ·by_cases hj1:j=i+1
      ·subst hj1;exact hb 1 (by omega) c1 hj
      ·by_cases hj2:j=i+2
       ·subst hj2;exact hb 2 (by omega) c2 hj
       ·obtain rfl:j=i+3:=by simp only [] at h4;omega
        exact hb 3 (by omega) c3 hj
    ·exact bad
   ·exact bad
set_option maxRecDepth 100000 in
set_option maxHeartbeats 1000000 in
theorem qlg (s chars:ByteArray) (hc:chars.size=2) (w:World) (h8:s.size≤8) (hac:∀ (j:Nat) (h:j<chars.size),(chars[j]'h).toNat<128) :
  Calls Tryz.prog 102 #[.string s,.string chars] w λe w'=>e=.returned (.int .i64 (Lib.indexAny s.data.toList chars.data.toList))∧Below w.heap.size w w':=by
 have hemp:chars.toList.isEmpty=false:=by
  rw [Lib.toList_data];cases h:chars.data.toList with
  | nil=>have:=Lib.size_eq chars;rw [h,List.length_nil] at this;omega
  | cons _ _=>rfl
 have hcon:∀ x:UInt8,¬ x.toNat<128→chars.data.toList.contains x=false:=λx hx=>by
  rw [List.contains_eq_any_beq,List.any_eq_false];intro y hy;obtain ⟨j,hj,rfl⟩:=List.mem_iff_getElem.1 hy;have hj':j<chars.size:=by rw [q0l];exact hj
  have h1:=hac j hj';have h2:=qbb chars j hj';rw [List.getElem?_eq_getElem hj] at h2;injection h2 with h2;intro he;have he':x=chars.data.toList[j]:=by simpa using he
  rw [he',h2] at hx;exact hx h1
 have HCON:=Lib.hid hcon;clear hcon;have HAC:=Lib.hid hac;clear hac;have hn1:((chars.size:Int)==1)=false:=beq_eq_false_iff_ne.2 (by omega)
 have HC:=Lib.hid hc;clear hc;have h8z:decide ((8:Int)<(s.size:Int))=false:=decide_eq_false (by omega)
 have hg0:(w.iter s 0).heap[w.heap.size]? = some (.stringIter s 0):=World.iter_heap w s 0;have hb0:Below w.heap.size w (w.iter s 0):=(Below.refl _ _).alloc (Nat.le_refl _) _;have hz0:w.heap.size<(w.iter s 0).heap.size:=by show w.heap.size<(w.heap.push _).size;simp
 go_enter Tryz.func102,Tryz.ntmps102
 go_wp2_with (go_at_call 124;refine (Tryz.strings_shouldUseASCIISet _ _).mono ?_;rintro e w' ⟨rfl,rfl⟩;rw [h8z])
 go_loopg [9,10] s.size (λg _ _ wx=>∃ i:Nat,i+g=s.size∧wx.heap[w'.heap.size]? = some (.stringIter s i)∧Below w'.heap.size w' wx∧w'.heap.size<wx.heap.size∧Lib.NoAny s.data.toList chars.data.toList i)
 case atStart=>exact ⟨0,by omega,hg0,hb0,hz0,Lib.NoAny.zero _ _⟩
 case round =>
  obtain ⟨i,hig,hit,hbx,hlt,hno⟩:=hrel;clear hg0 hb0 hz0;have HN:=Lib.hid hno;clear hno;have HB:=Lib.hid hbx;clear hbx;by_cases hi:i<s.size
  ·have hnx:=λty=>Lib.run_next_any_at (P:=Tryz.prog) wr w'.heap.size s i ty hit hi
   have hdle:=decode_le s i;have hxl:s.data.toList[i]? = some s[i]:=qbb s i hi;by_cases ha:s[i].toNat<128
   ·rw [decode_ascii s i hi ha] at hnx hdle
    simp only [] at hnx;have Hx:=Lib.hid hxl;clear hxl;have HIT:=Lib.hid hit;clear hit;generalize s[i]=x at *
    have hcn:=Lib.contains_iff_indexByte chars.data.toList x;have hback:((x.toNat:Int)).toNat.toUInt8=x:=by simp
    cases hin:chars.data.toList.contains x
    ·rw [hin] at hcn
     have hlt2:¬ ((0:Int)≤Lib.indexByte chars.data.toList x):=of_decide_eq_false hcn.symm;clear hcn;have HIN:=Lib.hid hin;clear hin
     go_wp2_with (go_at_call 123;refine (Tryz.strings_IndexRune_ascii _ _ _ (by omega) (by omega)).mono ?_;rintro e w' ⟨rfl,hw⟩;rw [hw,hback])
     go_roundg (s.size-(i+1))
     case measure=>omega
     case rel=>exact ⟨i+1,by omega,Lib.iterAt_heap _ _ _ _ _ HIT.out,Lib.below_iterAt HB.out (Nat.le_refl _) _ _,by rw [Lib.iterAt_size];exact hlt,HN.out.succ Hx.out HIN.out⟩
    ·rw [hin] at hcn
     have hge:(0:Int)≤Lib.indexByte chars.data.toList x:=of_decide_eq_true hcn.symm;clear hcn;have HIN:=Lib.hid hin;clear hin
     go_wp2_with (go_at_call 123;refine (Tryz.strings_IndexRune_ascii _ _ _ (by omega) (by omega)).mono ?_;rintro e w' ⟨rfl,hw⟩;rw [hw,hback])
     go_ret
     exact ⟨by rw [Lib.indexAny_hit HN.out Hx.out HIN.out];rfl,Lib.below_iterAt HB.out (Nat.le_refl _) _ _⟩
   ·obtain ⟨d1,d2,d3,d4⟩:=decode_high s i hi ha
    have hall:Lib.NoAny s.data.toList chars.data.toList (i+(Utf8.decode s i).2):=by
     intro j b hj hb;by_cases hji:j<i
     ·exact HN.out j b hji hb
     ·have hjs:j<s.size:=by
       rw [Lib.size_eq];rcases Nat.lt_or_ge j s.data.toList.length with hjl | hjl
       ·exact hjl
       ·rw [List.getElem?_eq_none hjl] at hb;cases hb
      rw [qbb s j hjs] at hb;injection hb with hb;rw [← hb];exact HCON.out _ (d4 j hjs (by omega) hj)
    have HALL:=Lib.hid hall;clear hall d4 ha hxl;have HD3:=Lib.hid d3;clear d3;have HIT:=Lib.hid hit;clear hit;generalize Utf8.decode s i=dc at *
    obtain ⟨r,n⟩:=dc;simp only [] at hnx d1 d2 hdle;have hr3:(r:Int)=65533∨(128≤(r:Int)∧Utf8.valid r=true):=by
     rcases HD3.out with h | h
     ·left;simp only [] at h;omega
     ·right;simp only [] at h;exact ⟨by omega,h.2⟩
    have HR3:=Lib.hid hr3;clear hr3
    go_wp2_with fail
    refine (ql8 chars HC.out r _ HAC.out HR3.out).mono ?_;rintro e w2 ⟨rfl,hb2⟩;have HB2:=Lib.hid hb2;clear hb2
    go_wp2
    go_roundg (s.size-(i+n))
    case measure=>omega
    case rel =>
     have hz2:=HB2.out.size;rw [Lib.iterAt_size] at hz2;refine ⟨i+n,by omega,?_,?_,by omega,HALL.out⟩
     ·rw [HB2.out.block _ (by rw [Lib.iterAt_size];exact hlt)]
      exact Lib.iterAt_heap _ _ _ _ _ HIT.out
     ·exact (Lib.below_iterAt HB.out (Nat.le_refl _) _ _).trans (HB2.out.mono (by rw [Lib.iterAt_size];omega))
  ·have hnx:=λty=>Lib.run_next_end_at (P:=Tryz.prog) wr w'.heap.size s i ty hit hi
   have hii:i=s.data.toList.length:=by rw [← Lib.size_eq];omega
   have HI:=Lib.hid hii;clear hii;have HIT:=Lib.hid hit;clear hit
   go_wp2
   go_ret
   exact ⟨by rw [Lib.indexAny_none (by rw [← HI.out];exact HN.out)];rfl,HB.out⟩
theorem zero_ascii:∀ w,(zeroValue 143).run Tryz.prog w=.ok (.agg (Array.replicate 256 (.bool false))) w:=λ_=>by kernel_rfl
theorem ql7 (s:ByteArray) (w:World) (hs:s.size<4294967281) :
  Calls Tryz.prog 102 #[.string s,.string { data:=#[34,10] }] w λe w'=>e=.returned (.int .i64 (Lib.indexAny s.data.toList [34,10]))∧Below w.heap.size w w':=by
 have ha:∀ (j:Nat) (h:j<(⟨#[34,10]⟩:ByteArray).size),((⟨#[34,10]⟩:ByteArray)[j]'h).toNat<128:=by
  intro j h;have h2:(⟨#[34,10]⟩:ByteArray).size=2:=rfl;rw [h2] at h
  match j,h with
  | 0,_=>show (34:UInt8).toNat<128;decide
  | 1,_=>show (10:UInt8).toNat<128;decide
 by_cases h8:s.size≤8
 ·exact qlg s ⟨#[34,10]⟩ rfl w h8 ha
 ·refine (Tryz.strings_IndexAny_long zero_ascii s ⟨#[34,10]⟩ w (Nat.le_refl 2) (by omega) hs (by show 2<4294967281;omega) ?_).mono ?_
  ·intro j b hb
   have h2:j<2:=by
    rcases Nat.lt_or_ge j 2 with h | h
    ·exact h
    ·rw [List.getElem?_eq_none (by simpa using h)] at hb;cases hb
   have hb':([34,10]:List UInt8)[j]? = some b:=hb
   match j,h2 with
   | 0,_=>injection hb' with hb';subst hb';decide
   | 1,_=>injection hb' with hb';subst hb';decide
  ·rintro e w' ⟨rfl,rfl⟩
   exact ⟨rfl,((Below.refl _ _).alloc (Nat.le_refl _) _).alloc (by simp) _⟩
end Go.Proofs.YtednmlmllbkhhaaGreatDoor

/-
  Several texts in one: ZnE, ZnF, ZnO, ZnP, ZnQ, ZnS, ZnR.
-/
import Derived.Test.YtnpkpehlncnkgaaGreatDoorPO
set_option linter.unusedVariables false
namespace Go.Proofs.YtnpkpehlncnkgaaGreatDoor
open Go.RowKit R Geo.Zn Zl
set_option maxRecDepth 100000 in
theorem off_vc (x y:Int) :
    True∧(!onB (x,y))=!onB (x,y)
     := by
  exact ⟨trivial,rfl⟩
set_option maxRecDepth 100000 in
theorem tw_vc (r:List P2) (h:cTwice.pre r) :
    (∃ (p':Nat×Unit),(p'.1≤r.length∧True)∧((0:Int)=(p'.1:Int)∧True∧True∧r=r∧(r.length:Int)=(r.length:Int)∧True)∧(((0:Int)=sumTo (twAt r) p'.1∧True)
    ∧ (r=r∧True)∧True)∧True∧True∧True∧(True∧True)∧True∧True∧True∧True∧(True∧True)∧True)∧∀ (p:Nat×Unit),p.1≤r.length∧True→bif decide ((p.1:Int) <
    (r.length:Int)) then ((0:Int)≤(p.1:Int)∧(p.1:Int)<(r.length:Int))∧((-9223372036854775808:Int)≤(p.1:Int)+(1:Int)∧(p.1:Int)+(1:Int) ≤
    (9223372036854775807:Int))∧(r.length:Int)≠(0:Int)∧((0:Int)≤((p.1:Int)+(1:Int)).tmod (r.length:Int)∧((p.1:Int)+(1:Int)).tmod (r.length:Int)<(↑r.length
    : Int))∧((-9223372036854775808:Int)≤(r.getD (p.1:Int).toNat ((0:Int),(0:Int))).1*(r.getD (((p.1:Int)+(1:Int)).tmod (r.length:Int)).toNat ((0:Int),(0:Int))).2 ∧
    (r.getD (p.1:Int).toNat ((0:Int),(0:Int))).1*(r.getD (((p.1:Int)+(1:Int)).tmod (r.length:Int)).toNat ((0:Int),(0:Int))).2≤(9223372036854775807:Int)) ∧
    ((-9223372036854775808:Int)≤(r.getD (((p.1:Int)+(1:Int)).tmod (r.length:Int)).toNat ((0:Int),(0:Int))).1*(r.getD (p.1:Int).toNat ((0:Int),(0:Int))).2∧(r.getD
    (((p.1:Int)+(1:Int)).tmod (r.length:Int)).toNat ((0:Int),(0:Int))).1*(r.getD (p.1:Int).toNat ((0:Int),(0:Int))).2≤(9223372036854775807:Int)) ∧
    ((-9223372036854775808:Int)≤(r.getD (p.1:Int).toNat ((0:Int),(0:Int))).1*(r.getD (((p.1:Int)+(1:Int)).tmod (r.length:Int)).toNat ((0:Int),(0:Int))).2-(r.getD
    (((p.1:Int)+(1:Int)).tmod (r.length:Int)).toNat ((0:Int),(0:Int))).1*(r.getD (p.1:Int).toNat ((0:Int),(0:Int))).2∧(r.getD (p.1:Int).toNat ((0:Int),(0 :
    Int))).1*(r.getD (((p.1:Int)+(1:Int)).tmod (r.length:Int)).toNat ((0:Int),(0:Int))).2-(r.getD (((p.1:Int)+(1:Int)).tmod (r.length:Int)).toNat ((0:Int),(0 :
    Int))).1*(r.getD (p.1:Int).toNat ((0:Int),(0:Int))).2≤(9223372036854775807:Int))∧((-9223372036854775808:Int)≤sumTo (twAt r) p.1+((r.getD (p.1:Int).toNat ((0:Int),
    (0:Int))).1*(r.getD (((p.1:Int)+(1:Int)).tmod (r.length:Int)).toNat ((0:Int),(0:Int))).2-(r.getD (((p.1:Int)+(1:Int)).tmod (r.length:Int)).toNat ((0:Int),(0
    : Int))).1*(r.getD (p.1:Int).toNat ((0:Int),(0:Int))).2)∧sumTo (twAt r) p.1+((r.getD (p.1:Int).toNat ((0:Int),(0:Int))).1*(r.getD (((p.1:Int)+(1:Int)).tmod
    (r.length:Int)).toNat ((0:Int),(0:Int))).2-(r.getD (((p.1:Int)+(1:Int)).tmod (r.length:Int)).toNat ((0:Int),(0:Int))).1*(r.getD (p.1:Int).toNat ((0:Int),(0 :
    Int))).2)≤(9223372036854775807:Int))∧((-9223372036854775808:Int)≤(p.1:Int)+(1:Int)∧(p.1:Int)+(1:Int)≤(9223372036854775807:Int))∧∃ (p':Nat×Unit),(p'.1 ≤
    r.length∧True)∧r.length-p'.1<r.length-p.1∧((p.1:Int)+(1:Int)=(p'.1:Int)∧True∧True∧r=r∧(r.length:Int)=(r.length:Int)∧True)∧((sumTo (twAt r) p.1 +
    ((r.getD (p.1:Int).toNat ((0:Int),(0:Int))).1*(r.getD (((p.1:Int)+(1:Int)).tmod (r.length:Int)).toNat ((0:Int),(0:Int))).2-(r.getD (((p.1:Int)+(1:Int)).tmod
    (r.length:Int)).toNat ((0:Int),(0:Int))).1*(r.getD (p.1:Int).toNat ((0:Int),(0:Int))).2)=sumTo (twAt r) p'.1∧True)∧(r=r∧True)∧True)∧True∧True∧True∧(True
    ∧ True)∧True∧True∧True∧True∧(True∧True)∧True else sumTo (twAt r) p.1=twiceI r
     := by
  obtain ⟨hl,hon⟩:r.length≤40∧r.all onB=true:=h;simp only [and_true,eq_self];refine ⟨⟨(0,()),Nat.zero_le _,rfl,rfl⟩,?_⟩;rintro ⟨p,u⟩ hp;dsimp only at hp ⊢;have hti:((p:Int).toNat)=p:=rfl;refine bifP (λhb=>?_) λhb=>?_
  rotate_left
  · have:p=r.length:=by have:=of_decide_eq_false hb;omega
    subst this;rfl
  have hlt:p<r.length:=by have:=of_decide_eq_true hb;omega
  have hn:0<r.length:=by omega
  have o1:=q1i (q31 hon hn p);have o2:=q1i (q31 hon hn (p+1));have m1:=q3k (a:=(rAt r p).1) (b:=(rAt r (p+1)).2) (by omega) (by omega) (by omega) (by omega)
  have m2:=q3k (a:=(rAt r (p+1)).1) (b:=(rAt r p).2) (by omega) (by omega) (by omega) (by omega)
  have hB:∀ i,-(2147352578:Int)≤twAt r i∧twAt r i≤2147352578:=λi=>by
    have o1:=q1i (q31 hon hn i);have o2:=q1i (q31 hon hn (i+1));have m1:=q3k (a:=(rAt r i).1) (b:=(rAt r (i+1)).2) (by omega) (by omega) (by omega) (by omega)
    have m2:=q3k (a:=(rAt r (i+1)).1) (b:=(rAt r i).2) (by omega) (by omega) (by omega) (by omega)
    unfold twAt;omega
  have hs:=qf4 hB p;have hs1:=qix (twAt r) p;have e:twAt r p=(rAt r p).1*(rAt r (p+1)).2-(rAt r (p+1)).1*(rAt r p).2:=rfl;simp only [hti,tm1,at0 r hlt,atm];have ti:=tm_in (p+1) hn;rw [← e];exact ⟨by omega,by omega,by omega,ti,by omega,by omega,by omega,by omega,by omega,(p+1,()),by omega,by omega,by omega,hs1.symm⟩
abbrev qco (p:Nat) (r:List P2):Prop :=
 (((r.getD (((p:Int)+1).tmod (r.length:Int)).toNat ((0:Int),(0:Int))).1=(r.getD (((p:Int)+1).tmod (r.length:Int)).toNat ((0:Int),(0:Int))).1∧(r.getD (((p:Int)+1).tmod (r.length:Int)).toNat ((0:Int),(0:Int))).2=(r.getD (((p:Int)+1).tmod (r.length:Int)).toNat ((0:Int),(0:Int))).2∧True)∧((r.getD (p:Int).toNat ((0:Int),(0:Int))).1=(r.getD (p:Int).toNat ((0:Int),(0:Int))).1∧(r.getD (p:Int).toNat ((0:Int),(0:Int))).2=(r.getD (p:Int).toNat ((0:Int),(0:Int))).2∧True)∧True)
abbrev qcy (p:Nat) (r:List P2):Prop :=
 (r=r∧(r.length:Int)=(r.length:Int)∧(p:Int)=(p:Int)∧True∧True∧(r.length:Int)=(r.length:Int)∧(p:Int)=(p:Int)∧True)
abbrev zZnE1_2 (p:Nat) (r:List P2):Prop :=
 (((r.getD (p:Int).toNat ((0:Int),(0:Int))).1=(r.getD (p:Int).toNat ((0:Int),(0:Int))).1∧(r.getD (p:Int).toNat ((0:Int),(0:Int))).2=(r.getD (p:Int).toNat ((0:Int),(0:Int))).2∧True)∧((r.getD (((p:Int)+1).tmod (r.length:Int)).toNat ((0:Int),(0:Int))).1=(r.getD (((p:Int)+1).tmod (r.length:Int)).toNat ((0:Int),(0:Int))).1∧(r.getD (((p:Int)+1).tmod (r.length:Int)).toNat ((0:Int),(0:Int))).2=(r.getD (((p:Int)+1).tmod (r.length:Int)).toNat ((0:Int),(0:Int))).2∧True)∧True)
abbrev qal (p:Nat) (r:List P2):Prop :=
 ((qcy p r)∧(qco p r)∧True∧True∧True∧True∧True∧True∧True∧True)
set_option maxRecDepth 100000 in
theorem si_vc (r:List P2) (h:cSimple.pre r) :
  (∃ (p':Nat),(p'≤r.length∧(List.range p').all (q3s r)=true)∧((0:Int)=(p':Int)∧r=r∧(r.length:Int)=(r.length:Int)∧(r.length:Int)=(r.length:Int)∧True)∧True∧True∧True∧True∧True∧True∧True∧True∧True)∧∀ (p:Nat),p≤r.length∧(List.range p).all (q3s r)=true→bif decide ((p:Int)<(r.length:Int)) then ((0≤(p:Int)∧(p:Int)<(r.length:Int))∧(zFit ((p:Int)+1))∧(r.length:Int)≠(0:Int)∧((0:Int)≤((p:Int)+1).tmod (r.length:Int)∧((p:Int)+1).tmod (r.length:Int)<(r.length:Int))∧((qal p r)∧(qcy p r)∧(qco p r)∧True∧True∧True∧True∧True∧True∧True∧True)∧((qal p r)∧(qal p r)∧(qcy p r)∧(qco p r)∧True∧True∧True∧True∧True∧True∧True∧True)∧(qal p r)∧(qal p r)∧(qcy p r)∧(qco p r)∧True∧True∧True∧True∧True∧True∧True∧True)∧(zFit ((p:Int)+2))∧(r.length:Int)≠(0:Int)∧((0:Int)≤((p:Int)+2).tmod (r.length:Int)∧((p:Int)+2).tmod (r.length:Int)<(r.length:Int))∧True∧bif q8z (r.getD (p:Int).toNat ((0:Int),(0:Int))) (r.getD (((p:Int)+1).tmod (r.length:Int)).toNat ((0:Int),(0:Int))) (r.getD (((p:Int)+2).tmod (r.length:Int)).toNat ((0:Int),(0:Int)))==(0:Int) then false=q59 r else (zFit ((p:Int)+2))∧(∃ (p':Nat),SiAt r (p:Int).toNat p'∧((p:Int)+2=(p':Int)∧r=r∧(r.length:Int)=(r.length:Int)∧(p:Int)=(p:Int)∧True∧True∧(r.length:Int)=(r.length:Int)∧(p:Int)=(p:Int)∧True)∧(zZnE1_2 p r)∧True∧True∧True∧True∧True∧True∧True∧True)∧∀ (p_1:Nat),SiAt r (p:Int).toNat p_1→(zFit ((p:Int)+(r.length:Int)))∧(zFit ((p:Int)+(r.length:Int)-1))∧True∧bif decide ((p_1:Int)<min (r.length:Int) ((p:Int)+(r.length:Int)-1)) then (0≤(p_1:Int)∧(p_1:Int)<(r.length:Int))∧(zFit ((p_1:Int)+1))∧(r.length:Int)≠(0:Int)∧((0:Int)≤((p_1:Int)+1).tmod (r.length:Int)∧((p_1:Int)+1).tmod (r.length:Int)<(r.length:Int))∧(onB (r.getD (p:Int).toNat ((0:Int),(0:Int)))=true∧onB (r.getD (((p:Int)+1).tmod (r.length:Int)).toNat ((0:Int),(0:Int)))=true∧onB (r.getD (p_1:Int).toNat ((0:Int),(0:Int)))=true∧onB (r.getD (((p_1:Int)+1).tmod (r.length:Int)).toNat ((0:Int),(0:Int)))=true)∧bif decide ((0:Int)<q1b (r.getD (p:Int).toNat ((0:Int),(0:Int))) (r.getD (((p:Int)+1).tmod (r.length:Int)).toNat ((0:Int),(0:Int))) (r.getD (p_1:Int).toNat ((0:Int),(0:Int))) (r.getD (((p_1:Int)+1).tmod (r.length:Int)).toNat ((0:Int),(0:Int)))) then false=q59 r else (zFit ((p_1:Int)+1))∧∃ (p':Nat),SiAt r (p:Int).toNat p'∧(2:Nat)*r.length+(2:Nat)-p'<(2:Nat)*r.length+(2:Nat)-p_1∧((p_1:Int)+1=(p':Int)∧r=r∧(r.length:Int)=(r.length:Int)∧(p:Int)=(p:Int)∧True∧True∧(r.length:Int)=(r.length:Int)∧(p:Int)=(p:Int)∧True)∧(zZnE1_2 p r)∧True∧True∧True∧True∧True∧True∧True∧True else (zFit ((p:Int)+1))∧∃ (p':Nat),(p'≤r.length∧(List.range p').all (q3s r)=true)∧r.length-p'<r.length-p∧((p:Int)+1=(p':Int)∧r=r∧(r.length:Int)=(r.length:Int)∧(r.length:Int)=(r.length:Int)∧True)∧True∧True∧True∧True∧True∧True∧True∧True∧True else true=q59 r:=by
 delta qco qcy zZnE1_2 qal zFit
 obtain ⟨⟨hl,hon⟩,h3⟩:(r.length≤40∧r.all onB=true)∧3≤r.length:=h;simp only [and_true,true_and,eq_self];refine ⟨⟨0,⟨Nat.zero_le _,rfl⟩,rfl⟩,?_⟩;rintro p ⟨hp,ha⟩;have hti:((p:Int).toNat)=p:=rfl;refine bifP (λhb=>?_) λhb=>?_
 rotate_left
 ·have:p=r.length:=by have:=of_decide_eq_false hb;omega
  subst this;exact ha.symm
 have hlt:p<r.length:=by have:=of_decide_eq_true hb;omega
 have hn:0<r.length:=by omega
 have hno:q3s r p=false→false=q59 r:=λhf=>by
  symm
  unfold q59;rw [← Bool.not_eq_true,List.all_eq_true];intro h;have:=h p (List.mem_range.2 hlt);rw [hf] at this;cases this
 simp only [hti,tm1,tm2,at0 r hlt,atm];have ti1:=tm_in (p+1) hn;have ti2:=tm_in (p+2) hn;refine ⟨⟨by omega,by omega,by omega,ti1.1,ti1.2⟩,by omega,by omega,ti2,bifP (λht=>?_) λht=>⟨by omega,⟨p+2,?_,by omega⟩,?_⟩⟩
 ·refine hno ?_
  unfold q3s;rw [show (q8z (rAt r p) (rAt r (p+1)) (rAt r (p+2)) != 0)=false by rw [bne,ht];rfl,Bool.false_and]
 ·refine ⟨hlt,Nat.le_refl _,.inr rfl,beq_eq_false_iff_ne.1 ht,λk h1 h2=>by omega⟩
 ·rintro j ⟨_,hj1,hj2,hturn,hcr⟩
  have htj:((j:Int).toNat)=j:=rfl;refine ⟨by omega,by omega,bifP (λhb2=>?_) λhb2=>⟨by omega,p+1,⟨by omega,?_⟩,by omega,by omega⟩⟩
  ·have hjl:j<min r.length (p+r.length-1):=by have:=of_decide_eq_true hb2;omega
   have hjr:j<r.length:=by omega
   simp only [htj,at0 r hjr];have ti3:=tm_in (j+1) hn;refine ⟨by omega,by omega,by omega,ti3,⟨q31 hon hn _,q31 hon hn _,q31 hon hn _,q31 hon hn _⟩,bifP (λhc=>?_) λhc=>⟨by omega,j+1,⟨hlt,by omega,.inl (by omega),hturn,λk h1 h2=>?_⟩,by omega,by omega⟩⟩
   ·refine hno ?_
    unfold q3s;rw [Bool.and_eq_false_iff];right;rw [← Bool.not_eq_true,List.all_eq_true];intro h;have:=h j (List.mem_range.2 hjr);rw [decide_eq_true hj1,decide_eq_true (show j+1<p+r.length by omega),hc] at this
    cases this
   ·rcases Nat.lt_or_ge k j with h | h
    ·exact hcr k h1 h
    ·obtain rfl:k=j:=by omega
     exact of_decide_eq_false hc
  ·have hjl:min r.length (p+r.length-1)≤j:=by have:=of_decide_eq_false hb2;omega
   rw [range_all,ha,Bool.true_and];unfold q3s;rw [show (q8z (rAt r p) (rAt r (p+1)) (rAt r (p+2)) != 0)=true from bne_iff_ne.2 hturn,Bool.true_and,List.all_eq_true];intro k hk;have hk:=List.mem_range.1 hk;by_cases h1:p+2≤k
   ·by_cases h2:k+1<p+r.length
    ·rw [decide_eq_false (hcr k h1 (by omega)),Bool.not_false,Bool.or_true]
    ·rw [decide_eq_false h2,Bool.and_false];rfl
   ·rw [decide_eq_false h1];rfl
set_option maxRecDepth 100000 in
theorem va_vc (r:List P2) (h:cRing.pre r) :
    bif decide ((3:Int)≤(r.length:Int)) then bif decide ((r.length:Int)≤(40:Int)) then (∃ (p':Nat),(p'≤r.length∧(List.take p' r).all onB=true)∧((0:Int)=(p':Int) ∧
    r=r∧True∧(r.length:Int)=(r.length:Int)∧True)∧True∧True∧True∧True∧(r=r∧true=true∧True)∧True∧True∧True∧True)∧∀ (p:Nat),p≤r.length∧(List.take
    p r).all onB=true→bif decide ((p:Int)<(r.length:Int)) then ((0:Int)≤(p:Int)∧(p:Int)<(r.length:Int))∧True∧bif !onB (r.getD (p:Int).toNat ((0:Int),(0 :
    Int))) then false=q0e r else ((-9223372036854775808:Int)≤(p:Int)+(1:Int)∧(p:Int)+(1:Int)≤(9223372036854775807:Int))∧∃ (p':Nat),(p'≤r.length∧(List.take
    p' r).all onB=true)∧r.length-p'<r.length-p∧((p:Int)+(1:Int)=(p':Int)∧r=r∧True∧(r.length:Int)=(r.length:Int)∧True)∧True∧True∧True∧True∧(r =
    r∧true=true∧True)∧True∧True∧True∧True else q1h r∧bif decide ((0:Int)<twiceI r) then (q1h r∧(3:Nat)≤r.length)∧q59 r=q0e r else false=q0e r else
    false=q0e r else false=q0e r
     := by
  have h:r.length≤1000:=h;simp only [and_true,true_and,eq_self];have hV:q0e r=(decide (3≤r.length)&&(decide (r.length≤40)&&(r.all onB&&(decide (0<twiceI r)&&q59 r)))):=rfl;refine bifP (λh1=>bifP (λh2=>⟨⟨0,⟨Nat.zero_le _,rfl⟩,rfl⟩,?_⟩) λh2=>?_) λh1=>?_
  rotate_left
  · rw [hV,decide_eq_false (show ¬ r.length≤40 by have:=of_decide_eq_false h2;omega),Bool.false_and,Bool.and_false]
  · rw [hV,decide_eq_false (show ¬ 3≤r.length by have:=of_decide_eq_false h1;omega),Bool.false_and]
  have h1:3≤r.length:=by have:=of_decide_eq_true h1;omega
  have h2:r.length≤40:=by have:=of_decide_eq_true h2;omega
  rw [decide_eq_true h1,decide_eq_true h2,Bool.true_and,Bool.true_and] at hV;rintro p ⟨hp,ha⟩;have hti:((p:Int).toNat)=p:=rfl;simp only [hti];refine bifP (λhb=>?_) λhb=>?_
  · have hlt:p<r.length:=by have:=of_decide_eq_true hb;omega
    refine ⟨⟨by omega,by omega⟩,bifP (λhb=>?_) λhb=>⟨⟨by omega,by omega⟩,p+1,⟨by omega,?_⟩,by omega,rfl⟩⟩
    · rw [hV,all_no r ((0:Int),(0:Int)) _ p hlt (by simpa using hb),Bool.false_and]
    · rw [qds r ((0:Int),(0:Int)) _ p hlt,ha,Bool.true_and];simpa using hb
  · have hle:r.length≤p:=by have:=of_decide_eq_false hb;omega
    rw [all_end r _ p hle] at ha;rw [hV,ha,Bool.true_and];exact ⟨⟨h2,ha⟩,bifP (λht=>⟨⟨⟨h2,ha⟩,h1⟩,by rw [ht,Bool.true_and]⟩) λht=>by rw [ht,Bool.false_and]⟩
abbrev qgw (p:Nat×Unit) (r:List P2) (x:Int) (y:Int):Prop :=
 (True∧True∧True∧IntKind.i64.wrap ((2:Int)*(r.getD (p.1:Int).toNat ((0:Int),(0:Int))).2)-y=IntKind.i64.wrap ((2:Int)*(r.getD (p.1:Int).toNat ((0:Int),(0:Int))).2)-y∧IntKind.i64.wrap ((2:Int)*(r.getD (((p.1:Int)+1).tmod (r.length:Int)).toNat ((0:Int),(0:Int))).2)-y=IntKind.i64.wrap ((2:Int)*(r.getD (((p.1:Int)+1).tmod (r.length:Int)).toNat ((0:Int),(0:Int))).2)-y∧(IntKind.i64.wrap ((2:Int)*(r.getD (p.1:Int).toNat ((0:Int),(0:Int))).1)-x)*(IntKind.i64.wrap ((2:Int)*(r.getD (((p.1:Int)+1).tmod (r.length:Int)).toNat ((0:Int),(0:Int))).2)-y)-(IntKind.i64.wrap ((2:Int)*(r.getD (p.1:Int).toNat ((0:Int),(0:Int))).2)-y)*(IntKind.i64.wrap ((2:Int)*(r.getD (((p.1:Int)+1).tmod (r.length:Int)).toNat ((0:Int),(0:Int))).1)-x)=(IntKind.i64.wrap ((2:Int)*(r.getD (p.1:Int).toNat ((0:Int),(0:Int))).1)-x)*(IntKind.i64.wrap ((2:Int)*(r.getD (((p.1:Int)+1).tmod (r.length:Int)).toNat ((0:Int),(0:Int))).2)-y)-(IntKind.i64.wrap ((2:Int)*(r.getD (p.1:Int).toNat ((0:Int),(0:Int))).2)-y)*(IntKind.i64.wrap ((2:Int)*(r.getD (((p.1:Int)+1).tmod (r.length:Int)).toNat ((0:Int),(0:Int))).1)-x)∧True)
abbrev q3e (p:Nat×Unit) (p':Nat×Unit) (r:List P2):Prop :=
 ((p.1:Int)+1=(p'.1:Int)∧True∧True∧r=r∧(r.length:Int)=(r.length:Int)∧True)
abbrev q5d (p:Nat×Unit) (p':Nat×Unit) (p_1:Bool) (r:List P2) (x:Int) (y:Int):Prop :=
 ((sumTo (q19 r (x,y)) p.1=sumTo (q19 r (x,y)) p'.1∧True)∧(p_1=(List.range p'.1).any (onAt r (x,y))∧True)∧(r=r∧True)∧(x=x∧y=y∧True)∧True)
abbrev qgt (p:Nat×Unit) (p':Nat×Unit) (p_1:Bool) (r:List P2) (x:Int) (y:Int):Prop :=
 ((sumTo (q19 r (x,y)) p.1-(1:Int)=sumTo (q19 r (x,y)) p'.1∧True)∧(p_1=(List.range p'.1).any (onAt r (x,y))∧True)∧(r=r∧True)∧(x=x∧y=y∧True)∧True)
abbrev qgk (p:Nat×Unit) (r:List P2):Prop :=
 (True∧True∧r=r∧(r.length:Int)=(r.length:Int)∧(p.1:Int)=(p.1:Int)∧True∧True∧True∧True)
set_option maxRecDepth 100000 in
theorem ha_vc (r:List P2) (x y:Int) (h:cHalf.pre (r,(x,y))) :
  (∃ (p':Nat×Unit),(p'.1≤r.length∧True)∧((0:Int)=(p'.1:Int)∧True∧True∧r=r∧(r.length:Int)=(r.length:Int)∧True)∧(((0:Int)=sumTo (q19 r (x,y)) p'.1∧True)∧(false=(List.range p'.1).any (onAt r (x,y))∧True)∧(r=r∧True)∧(x=x∧y=y∧True)∧True)∧True∧True∧True∧(True∧True∧True∧True)∧True∧True∧True∧True∧(True∧True∧True∧True)∧True)∧∀ (p:Nat×Unit),p.1≤r.length∧True→bif decide ((p.1:Int)<(r.length:Int)) then (0≤(p.1:Int)∧(p.1:Int)<(r.length:Int))∧(zFit ((p.1:Int)+1))∧(r.length:Int)≠(0:Int)∧((0:Int)≤((p.1:Int)+1).tmod (r.length:Int)∧((p.1:Int)+1).tmod (r.length:Int)<(r.length:Int))∧True∧(zFit (IntKind.i64.wrap ((2:Int)*(r.getD (p.1:Int).toNat ((0:Int),(0:Int))).1)-x))∧True∧(zFit (IntKind.i64.wrap ((2:Int)*(r.getD (p.1:Int).toNat ((0:Int),(0:Int))).2)-y))∧True∧(zFit (IntKind.i64.wrap ((2:Int)*(r.getD (((p.1:Int)+1).tmod (r.length:Int)).toNat ((0:Int),(0:Int))).1)-x))∧True∧(zFit (IntKind.i64.wrap ((2:Int)*(r.getD (((p.1:Int)+1).tmod (r.length:Int)).toNat ((0:Int),(0:Int))).2)-y))∧(zFit ((IntKind.i64.wrap ((2:Int)*(r.getD (p.1:Int).toNat ((0:Int),(0:Int))).1)-x)*(IntKind.i64.wrap ((2:Int)*(r.getD (((p.1:Int)+1).tmod (r.length:Int)).toNat ((0:Int),(0:Int))).2)-y)))∧(zFit ((IntKind.i64.wrap ((2:Int)*(r.getD (p.1:Int).toNat ((0:Int),(0:Int))).2)-y)*(IntKind.i64.wrap ((2:Int)*(r.getD (((p.1:Int)+1).tmod (r.length:Int)).toNat ((0:Int),(0:Int))).1)-x)))∧(zFit ((IntKind.i64.wrap ((2:Int)*(r.getD (p.1:Int).toNat ((0:Int),(0:Int))).1)-x)*(IntKind.i64.wrap ((2:Int)*(r.getD (((p.1:Int)+1).tmod (r.length:Int)).toNat ((0:Int),(0:Int))).2)-y)-(IntKind.i64.wrap ((2:Int)*(r.getD (p.1:Int).toNat ((0:Int),(0:Int))).2)-y)*(IntKind.i64.wrap ((2:Int)*(r.getD (((p.1:Int)+1).tmod (r.length:Int)).toNat ((0:Int),(0:Int))).1)-x)))∧(bif (List.range p.1).any (onAt r (x,y)) then ∃ (p':Bool),p'=((List.range p.1).any (onAt r (x,y))||(IntKind.i64.wrap ((2:Int)*(r.getD (p.1:Int).toNat ((0:Int),(0:Int))).1)-x)*(IntKind.i64.wrap ((2:Int)*(r.getD (((p.1:Int)+1).tmod (r.length:Int)).toNat ((0:Int),(0:Int))).2)-y)-(IntKind.i64.wrap ((2:Int)*(r.getD (p.1:Int).toNat ((0:Int),(0:Int))).2)-y)*(IntKind.i64.wrap ((2:Int)*(r.getD (((p.1:Int)+1).tmod (r.length:Int)).toNat ((0:Int),(0:Int))).1)-x)==(0:Int)&&decide ((IntKind.i64.wrap ((2:Int)*(r.getD (p.1:Int).toNat ((0:Int),(0:Int))).1)-x)*(IntKind.i64.wrap ((2:Int)*(r.getD (((p.1:Int)+1).tmod (r.length:Int)).toNat ((0:Int),(0:Int))).1)-x)+(IntKind.i64.wrap ((2:Int)*(r.getD (p.1:Int).toNat ((0:Int),(0:Int))).2)-y)*(IntKind.i64.wrap ((2:Int)*(r.getD (((p.1:Int)+1).tmod (r.length:Int)).toNat ((0:Int),(0:Int))).2)-y)≤(0:Int)))∧(qgw p r x y)∧((true=p'∧True)∧(r=r∧True)∧(x=x∧y=y∧True)∧(sumTo (q19 r (x,y)) p.1=sumTo (q19 r (x,y)) p.1∧True)∧True)∧True∧True∧True∧(qgk p r)∧True∧True∧True∧True∧(True∧True∧True∧True)∧True else bif (IntKind.i64.wrap ((2:Int)*(r.getD (p.1:Int).toNat ((0:Int),(0:Int))).1)-x)*(IntKind.i64.wrap ((2:Int)*(r.getD (((p.1:Int)+1).tmod (r.length:Int)).toNat ((0:Int),(0:Int))).2)-y)-(IntKind.i64.wrap ((2:Int)*(r.getD (p.1:Int).toNat ((0:Int),(0:Int))).2)-y)*(IntKind.i64.wrap ((2:Int)*(r.getD (((p.1:Int)+1).tmod (r.length:Int)).toNat ((0:Int),(0:Int))).1)-x)==(0:Int) then (zFit ((IntKind.i64.wrap ((2:Int)*(r.getD (p.1:Int).toNat ((0:Int),(0:Int))).1)-x)*(IntKind.i64.wrap ((2:Int)*(r.getD (((p.1:Int)+1).tmod (r.length:Int)).toNat ((0:Int),(0:Int))).1)-x)))∧(zFit ((IntKind.i64.wrap ((2:Int)*(r.getD (p.1:Int).toNat ((0:Int),(0:Int))).2)-y)*(IntKind.i64.wrap ((2:Int)*(r.getD (((p.1:Int)+1).tmod (r.length:Int)).toNat ((0:Int),(0:Int))).2)-y)))∧(zFit ((IntKind.i64.wrap ((2:Int)*(r.getD (p.1:Int).toNat ((0:Int),(0:Int))).1)-x)*(IntKind.i64.wrap ((2:Int)*(r.getD (((p.1:Int)+1).tmod (r.length:Int)).toNat ((0:Int),(0:Int))).1)-x)+(IntKind.i64.wrap ((2:Int)*(r.getD (p.1:Int).toNat ((0:Int),(0:Int))).2)-y)*(IntKind.i64.wrap ((2:Int)*(r.getD (((p.1:Int)+1).tmod (r.length:Int)).toNat ((0:Int),(0:Int))).2)-y)))∧∃ (p':Bool),p'=((List.range p.1).any (onAt r (x,y))||(IntKind.i64.wrap ((2:Int)*(r.getD (p.1:Int).toNat ((0:Int),(0:Int))).1)-x)*(IntKind.i64.wrap ((2:Int)*(r.getD (((p.1:Int)+1).tmod (r.length:Int)).toNat ((0:Int),(0:Int))).2)-y)-(IntKind.i64.wrap ((2:Int)*(r.getD (p.1:Int).toNat ((0:Int),(0:Int))).2)-y)*(IntKind.i64.wrap ((2:Int)*(r.getD (((p.1:Int)+1).tmod (r.length:Int)).toNat ((0:Int),(0:Int))).1)-x)==(0:Int)&&decide ((IntKind.i64.wrap ((2:Int)*(r.getD (p.1:Int).toNat ((0:Int),(0:Int))).1)-x)*(IntKind.i64.wrap ((2:Int)*(r.getD (((p.1:Int)+1).tmod (r.length:Int)).toNat ((0:Int),(0:Int))).1)-x)+(IntKind.i64.wrap ((2:Int)*(r.getD (p.1:Int).toNat ((0:Int),(0:Int))).2)-y)*(IntKind.i64.wrap ((2:Int)*(r.getD (((p.1:Int)+1).tmod (r.length:Int)).toNat ((0:Int),(0:Int))).2)-y)≤(0:Int)))∧(qgw p r x y)∧((decide ((IntKind.i64.wrap ((2:Int)*(r.getD (p.1:Int).toNat ((0:Int),(0:Int))).1)-x)*(IntKind.i64.wrap ((2:Int)*(r.getD (((p.1:Int)+1).tmod (r.length:Int)).toNat ((0:Int),(0:Int))).1)-x)+(IntKind.i64.wrap ((2:Int)*(r.getD (p.1:Int).toNat ((0:Int),(0:Int))).2)-y)*(IntKind.i64.wrap ((2:Int)*(r.getD (((p.1:Int)+1).tmod (r.length:Int)).toNat ((0:Int),(0:Int))).2)-y)≤(0:Int))=p'∧True)∧(r=r∧True)∧(x=x∧y=y∧True)∧(sumTo (q19 r (x,y)) p.1=sumTo (q19 r (x,y)) p.1∧True)∧True)∧True∧True∧True∧(qgk p r)∧True∧True∧True∧True∧(True∧True∧True∧True)∧True else ∃ (p':Bool),p'=((List.range p.1).any (onAt r (x,y))||(IntKind.i64.wrap ((2:Int)*(r.getD (p.1:Int).toNat ((0:Int),(0:Int))).1)-x)*(IntKind.i64.wrap ((2:Int)*(r.getD (((p.1:Int)+1).tmod (r.length:Int)).toNat ((0:Int),(0:Int))).2)-y)-(IntKind.i64.wrap ((2:Int)*(r.getD (p.1:Int).toNat ((0:Int),(0:Int))).2)-y)*(IntKind.i64.wrap ((2:Int)*(r.getD (((p.1:Int)+1).tmod (r.length:Int)).toNat ((0:Int),(0:Int))).1)-x)==(0:Int)&&decide ((IntKind.i64.wrap ((2:Int)*(r.getD (p.1:Int).toNat ((0:Int),(0:Int))).1)-x)*(IntKind.i64.wrap ((2:Int)*(r.getD (((p.1:Int)+1).tmod (r.length:Int)).toNat ((0:Int),(0:Int))).1)-x)+(IntKind.i64.wrap ((2:Int)*(r.getD (p.1:Int).toNat ((0:Int),(0:Int))).2)-y)*(IntKind.i64.wrap ((2:Int)*(r.getD (((p.1:Int)+1).tmod (r.length:Int)).toNat ((0:Int),(0:Int))).2)-y)≤(0:Int)))∧(qgw p r x y)∧((false=p'∧True)∧(r=r∧True)∧(x=x∧y=y∧True)∧(sumTo (q19 r (x,y)) p.1=sumTo (q19 r (x,y)) p.1∧True)∧True)∧True∧True∧True∧(qgk p r)∧True∧True∧True∧True∧(True∧True∧True∧True)∧True)∧∀ (p_1:Bool),p_1=((List.range p.1).any (onAt r (x,y))||(IntKind.i64.wrap ((2:Int)*(r.getD (p.1:Int).toNat ((0:Int),(0:Int))).1)-x)*(IntKind.i64.wrap ((2:Int)*(r.getD (((p.1:Int)+1).tmod (r.length:Int)).toNat ((0:Int),(0:Int))).2)-y)-(IntKind.i64.wrap ((2:Int)*(r.getD (p.1:Int).toNat ((0:Int),(0:Int))).2)-y)*(IntKind.i64.wrap ((2:Int)*(r.getD (((p.1:Int)+1).tmod (r.length:Int)).toNat ((0:Int),(0:Int))).1)-x)==(0:Int)&&decide ((IntKind.i64.wrap ((2:Int)*(r.getD (p.1:Int).toNat ((0:Int),(0:Int))).1)-x)*(IntKind.i64.wrap ((2:Int)*(r.getD (((p.1:Int)+1).tmod (r.length:Int)).toNat ((0:Int),(0:Int))).1)-x)+(IntKind.i64.wrap ((2:Int)*(r.getD (p.1:Int).toNat ((0:Int),(0:Int))).2)-y)*(IntKind.i64.wrap ((2:Int)*(r.getD (((p.1:Int)+1).tmod (r.length:Int)).toNat ((0:Int),(0:Int))).2)-y)≤(0:Int)))→bif decide (IntKind.i64.wrap ((2:Int)*(r.getD (p.1:Int).toNat ((0:Int),(0:Int))).2)-y≤(0:Int)) then bif decide ((0:Int)<IntKind.i64.wrap ((2:Int)*(r.getD (((p.1:Int)+1).tmod (r.length:Int)).toNat ((0:Int),(0:Int))).2)-y) then bif decide ((0:Int)<(IntKind.i64.wrap ((2:Int)*(r.getD (p.1:Int).toNat ((0:Int),(0:Int))).1)-x)*(IntKind.i64.wrap ((2:Int)*(r.getD (((p.1:Int)+1).tmod (r.length:Int)).toNat ((0:Int),(0:Int))).2)-y)-(IntKind.i64.wrap ((2:Int)*(r.getD (p.1:Int).toNat ((0:Int),(0:Int))).2)-y)*(IntKind.i64.wrap ((2:Int)*(r.getD (((p.1:Int)+1).tmod (r.length:Int)).toNat ((0:Int),(0:Int))).1)-x)) then (zFit (sumTo (q19 r (x,y)) p.1+(1:Int)))∧(zFit ((p.1:Int)+1))∧∃ (p':Nat×Unit),(p'.1≤r.length∧True)∧r.length-p'.1<r.length-p.1∧(q3e p p' r)∧((sumTo (q19 r (x,y)) p.1+(1:Int)=sumTo (q19 r (x,y)) p'.1∧True)∧(p_1=(List.range p'.1).any (onAt r (x,y))∧True)∧(r=r∧True)∧(x=x∧y=y∧True)∧True)∧True∧True∧True∧(True∧True∧True∧True)∧True∧True∧True∧True∧(True∧True∧True∧True)∧True else bif decide ((0:Int)<IntKind.i64.wrap ((2:Int)*(r.getD (p.1:Int).toNat ((0:Int),(0:Int))).2)-y) then bif decide (IntKind.i64.wrap ((2:Int)*(r.getD (((p.1:Int)+1).tmod (r.length:Int)).toNat ((0:Int),(0:Int))).2)-y≤(0:Int)) then bif decide ((IntKind.i64.wrap ((2:Int)*(r.getD (p.1:Int).toNat ((0:Int),(0:Int))).1)-x)*(IntKind.i64.wrap ((2:Int)*(r.getD (((p.1:Int)+1).tmod (r.length:Int)).toNat ((0:Int),(0:Int))).2)-y)-(IntKind.i64.wrap ((2:Int)*(r.getD (p.1:Int).toNat ((0:Int),(0:Int))).2)-y)*(IntKind.i64.wrap ((2:Int)*(r.getD (((p.1:Int)+1).tmod (r.length:Int)).toNat ((0:Int),(0:Int))).1)-x)<(0:Int)) then (zFit (sumTo (q19 r (x,y)) p.1-(1:Int)))∧(zFit ((p.1:Int)+1))∧∃ (p':Nat×Unit),(p'.1≤r.length∧True)∧r.length-p'.1<r.length-p.1∧(q3e p p' r)∧(qgt p p' p_1 r x y)∧True∧True∧True∧(True∧True∧True∧True)∧True∧True∧True∧True∧(True∧True∧True∧True)∧True else (zFit ((p.1:Int)+1))∧∃ (p':Nat×Unit),(p'.1≤r.length∧True)∧r.length-p'.1<r.length-p.1∧(q3e p p' r)∧(q5d p p' p_1 r x y)∧True∧True∧True∧(True∧True∧True∧True)∧True∧True∧True∧True∧(True∧True∧True∧True)∧True else (zFit ((p.1:Int)+1))∧∃ (p':Nat×Unit),(p'.1≤r.length∧True)∧r.length-p'.1<r.length-p.1∧(q3e p p' r)∧(q5d p p' p_1 r x y)∧True∧True∧True∧(True∧True∧True∧True)∧True∧True∧True∧True∧(True∧True∧True∧True)∧True else (zFit ((p.1:Int)+1))∧∃ (p':Nat×Unit),(p'.1≤r.length∧True)∧r.length-p'.1<r.length-p.1∧(q3e p p' r)∧(q5d p p' p_1 r x y)∧True∧True∧True∧(True∧True∧True∧True)∧True∧True∧True∧True∧(True∧True∧True∧True)∧True else bif decide ((0:Int)<IntKind.i64.wrap ((2:Int)*(r.getD (p.1:Int).toNat ((0:Int),(0:Int))).2)-y) then bif decide (IntKind.i64.wrap ((2:Int)*(r.getD (((p.1:Int)+1).tmod (r.length:Int)).toNat ((0:Int),(0:Int))).2)-y≤(0:Int)) then bif decide ((IntKind.i64.wrap ((2:Int)*(r.getD (p.1:Int).toNat ((0:Int),(0:Int))).1)-x)*(IntKind.i64.wrap ((2:Int)*(r.getD (((p.1:Int)+1).tmod (r.length:Int)).toNat ((0:Int),(0:Int))).2)-y)-(IntKind.i64.wrap ((2:Int)*(r.getD (p.1:Int).toNat ((0:Int),(0:Int))).2)-y)*(IntKind.i64.wrap ((2:Int)*(r.getD (((p.1:Int)+1).tmod (r.length:Int)).toNat ((0:Int),(0:Int))).1)-x)<(0:Int)) then (zFit (sumTo (q19 r (x,y)) p.1-(1:Int)))∧(zFit ((p.1:Int)+1))∧∃ (p':Nat×Unit),(p'.1≤r.length∧True)∧r.length-p'.1<r.length-p.1∧(q3e p p' r)∧(qgt p p' p_1 r x y)∧True∧True∧True∧(True∧True∧True∧True)∧True∧True∧True∧True∧(True∧True∧True∧True)∧True else (zFit ((p.1:Int)+1))∧∃ (p':Nat×Unit),(p'.1≤r.length∧True)∧r.length-p'.1<r.length-p.1∧(q3e p p' r)∧(q5d p p' p_1 r x y)∧True∧True∧True∧(True∧True∧True∧True)∧True∧True∧True∧True∧(True∧True∧True∧True)∧True else (zFit ((p.1:Int)+1))∧∃ (p':Nat×Unit),(p'.1≤r.length∧True)∧r.length-p'.1<r.length-p.1∧(q3e p p' r)∧(q5d p p' p_1 r x y)∧True∧True∧True∧(True∧True∧True∧True)∧True∧True∧True∧True∧(True∧True∧True∧True)∧True else (zFit ((p.1:Int)+1))∧∃ (p':Nat×Unit),(p'.1≤r.length∧True)∧r.length-p'.1<r.length-p.1∧(q3e p p' r)∧(q5d p p' p_1 r x y)∧True∧True∧True∧(True∧True∧True∧True)∧True∧True∧True∧True∧(True∧True∧True∧True)∧True else bif decide ((0:Int)<IntKind.i64.wrap ((2:Int)*(r.getD (p.1:Int).toNat ((0:Int),(0:Int))).2)-y) then bif decide (IntKind.i64.wrap ((2:Int)*(r.getD (((p.1:Int)+1).tmod (r.length:Int)).toNat ((0:Int),(0:Int))).2)-y≤(0:Int)) then bif decide ((IntKind.i64.wrap ((2:Int)*(r.getD (p.1:Int).toNat ((0:Int),(0:Int))).1)-x)*(IntKind.i64.wrap ((2:Int)*(r.getD (((p.1:Int)+1).tmod (r.length:Int)).toNat ((0:Int),(0:Int))).2)-y)-(IntKind.i64.wrap ((2:Int)*(r.getD (p.1:Int).toNat ((0:Int),(0:Int))).2)-y)*(IntKind.i64.wrap ((2:Int)*(r.getD (((p.1:Int)+1).tmod (r.length:Int)).toNat ((0:Int),(0:Int))).1)-x)<(0:Int)) then (zFit (sumTo (q19 r (x,y)) p.1-(1:Int)))∧(zFit ((p.1:Int)+1))∧∃ (p':Nat×Unit),(p'.1≤r.length∧True)∧r.length-p'.1<r.length-p.1∧(q3e p p' r)∧(qgt p p' p_1 r x y)∧True∧True∧True∧(True∧True∧True∧True)∧True∧True∧True∧True∧(True∧True∧True∧True)∧True else (zFit ((p.1:Int)+1))∧∃ (p':Nat×Unit),(p'.1≤r.length∧True)∧r.length-p'.1<r.length-p.1∧(q3e p p' r)∧(q5d p p' p_1 r x y)∧True∧True∧True∧(True∧True∧True∧True)∧True∧True∧True∧True∧(True∧True∧True∧True)∧True else (zFit ((p.1:Int)+1))∧∃ (p':Nat×Unit),(p'.1≤r.length∧True)∧r.length-p'.1<r.length-p.1∧(q3e p p' r)∧(q5d p p' p_1 r x y)∧True∧True∧True∧(True∧True∧True∧True)∧True∧True∧True∧True∧(True∧True∧True∧True)∧True else (zFit ((p.1:Int)+1))∧∃ (p':Nat×Unit),(p'.1≤r.length∧True)∧r.length-p'.1<r.length-p.1∧(q3e p p' r)∧(q5d p p' p_1 r x y)∧True∧True∧True∧(True∧True∧True∧True)∧True∧True∧True∧True∧(True∧True∧True∧True)∧True else (sumTo (q19 r (x,y)) p.1,(List.range p.1).any (onAt r (x,y)))=(qa7 r (x,y),onI r (x,y))∧(sumTo (q19 r (x,y)) p.1,(List.range p.1).any (onAt r (x,y)))=(qa7 r (x,y),onI r (x,y)):=by
 delta qgw q3e q5d qgt qgk zFit
 obtain ⟨⟨hl,hon⟩,⟨hx1,hx2⟩,hy1,hy2⟩:(r.length≤40∧r.all onB=true)∧((0≤x∧x≤65534)∧(0≤y∧y≤65534)):=h;simp only [and_true,true_and,eq_self,and_self];refine ⟨⟨(0,()),Nat.zero_le _,rfl,rfl,rfl⟩,?_⟩;rintro ⟨p,u⟩ hp;dsimp only at hp ⊢;have hti:((p:Int).toNat)=p:=rfl;refine bifP (λhb=>?_) λhb=>?_
 rotate_left
 ·have:p=r.length:=by have:=of_decide_eq_false hb;omega
  subst this;rfl
 have hlt:p<r.length:=by have:=of_decide_eq_true hb;omega
 have hn:0<r.length:=by omega
 have o1:=q1i (q31 hon hn p);have o2:=q1i (q31 hon hn (p+1));have hB:∀ i,-(1:Int)≤q19 r (x,y) i∧q19 r (x,y) i≤1:=λi=>by
  unfold q19;dsimp only;split <;> (try split) <;> omega
 have hs:=qf4 hB p;have hs1:=qix (q19 r (x,y)) p;have ho1:=qfz (onAt r (x,y)) p;have wX:∀ i,IntKind.i64.wrap (2*(rAt r i).1)=2*(rAt r i).1:=λi=>q4h (by have:=q1i (q31 hon hn i);unfold q83;omega)
 have wY:∀ i,IntKind.i64.wrap (2*(rAt r i).2)=2*(rAt r i).2:=λi=>q4h (by have:=q1i (q31 hon hn i);unfold q83;omega)
 simp only [hti,tm1,at0 r hlt,atm,wX,wY];have ti:=tm_in (p+1) hn;have e1:q19 r (x,y) p=if 2*(rAt r p).2-y≤0∧0<2*(rAt r (p+1)).2-y∧0<(2*(rAt r p).1-x)*(2*(rAt r (p+1)).2-y)-(2*(rAt r p).2-y)*(2*(rAt r (p+1)).1-x) then 1 else if 0<2*(rAt r p).2-y∧2*(rAt r (p+1)).2-y≤0∧(2*(rAt r p).1-x)*(2*(rAt r (p+1)).2-y)-(2*(rAt r p).2-y)*(2*(rAt r (p+1)).1-x)<0 then -1 else 0:=rfl
 have e2:onAt r (x,y) p=((2*(rAt r p).1-x)*(2*(rAt r (p+1)).2-y)-(2*(rAt r p).2-y)*(2*(rAt r (p+1)).1-x)==0&&decide ((2*(rAt r p).1-x)*(2*(rAt r (p+1)).1-x)+(2*(rAt r p).2-y)*(2*(rAt r (p+1)).2-y)≤0)):=rfl;rw [e1] at hs1;rw [e2] at ho1;have w1:-65534≤2*(rAt r p).1-x∧2*(rAt r p).1-x≤65534:=by omega
 have w2:-65534≤2*(rAt r p).2-y∧2*(rAt r p).2-y≤65534:=by omega
 have w3:-65534≤2*(rAt r (p+1)).1-x∧2*(rAt r (p+1)).1-x≤65534:=by omega
 have w4:-65534≤2*(rAt r (p+1)).2-y∧2*(rAt r (p+1)).2-y≤65534:=by omega
 refine ⟨by omega,by omega,by omega,ti,by omega,by omega,by omega,by omega,?_⟩
 clear wX wY e1 e2 o1 o2;generalize 2*(rAt r p).1-x=AX at *
 generalize 2*(rAt r p).2-y=AY at *
 generalize 2*(rAt r (p+1)).1-x=BX at *
 generalize 2*(rAt r (p+1)).2-y=BY at *
 have m1:=mul_le w1.1 w1.2 w4.1 w4.2;have m2:=mul_le w2.1 w2.2 w3.1 w3.2;have m3:=mul_le w1.1 w1.2 w3.1 w3.2;have m4:=mul_le w2.1 w2.2 w4.1 w4.2;generalize AX*BY=u1 at *
 generalize AY*BX=u2 at *
 generalize AX*BX=u3 at *
 generalize AY*BY=u4 at *
 refine ⟨by omega,by omega,by omega,bifP (λc1=>⟨_,rfl,by rw [c1,Bool.true_or]⟩) λc1=>bifP (λc2=>⟨by omega,by omega,by omega,_,rfl,by rw [c1,c2,Bool.false_or,Bool.true_and]⟩) λc2=>⟨_,rfl,by rw [c1,c2];rfl⟩,?_⟩
 intro q hq;have leaf:∀ W:Int,sumTo (q19 r (x,y)) (p+1)=W→((-9223372036854775808:Int)≤(p:Int)+1∧(p:Int)+1≤9223372036854775807)∧∃ p':Nat×Unit,p'.1≤r.length∧r.length-p'.1<r.length-p∧(p:Int)+1=(p'.1:Int)∧W=sumTo (q19 r (x,y)) p'.1∧q=(List.range p'.1).any (onAt r (x,y)) :=
  λW h=>⟨by omega,(p+1,()),by omega,by omega,by omega,h.symm,by rw [ho1];exact hq⟩
 rw [hs1] at leaf;clear hs1 ho1 hq hB
 repeat' (refine bifP (λc=>?_) (λc=>?_))
 all_goals simp only [decide_eq_true_eq,decide_eq_false_iff_not] at *
 all_goals first
  | exact leaf _ (by split <;> (try split) <;> omega)
  | exact ⟨by omega,leaf _ (by split <;> (try split) <;> omega)⟩
set_option maxRecDepth 100000 in
theorem in_vc (r:List P2) (x y:Int) (h:cInside.pre (r,(x,y))) :
    (q1h r∧q28 (x,y))∧bif qa7 r (x,y) != (0:Int) then (!onI r (x,y))=q17 r (x,y) else false=q17 r (x,y)
     := by
  refine ⟨h,?_⟩;unfold q17;refine bifP (λc=>by rw [c,Bool.true_and]) λc=>by rw [c,Bool.false_and]
set_option maxRecDepth 100000 in
theorem out_vc (r:List P2) (x y:Int) (h:qiv.pre (r,(x,y))) :
    (q1h r∧q28 (x,y))∧bif qa7 r (x,y)==(0:Int) then (!onI r (x,y))=q0p r (x,y) else false=q0p r (x,y)
     := by
  refine ⟨h,?_⟩;unfold q0p;refine bifP (λc=>by rw [c,Bool.true_and]) λc=>by rw [c,Bool.false_and]
abbrev zZnF1_0 (p:Nat) (x:List P2) (y:List P2):Prop :=
 ((x=x∧True)∧(y=y∧True)∧(false=false∧True)∧((x.getD (p:Int).toNat ((0:Int),(0:Int))).1=(x.getD (p:Int).toNat ((0:Int),(0:Int))).1∧(x.getD (p:Int).toNat ((0:Int),(0:Int))).2=(x.getD (p:Int).toNat ((0:Int),(0:Int))).2∧True)∧((x.getD (((p:Int)+1).tmod (x.length:Int)).toNat ((0:Int),(0:Int))).1=(x.getD (((p:Int)+1).tmod (x.length:Int)).toNat ((0:Int),(0:Int))).1∧(x.getD (((p:Int)+1).tmod (x.length:Int)).toNat ((0:Int),(0:Int))).2=(x.getD (((p:Int)+1).tmod (x.length:Int)).toNat ((0:Int),(0:Int))).2∧True)∧(y=y∧True)∧True)
abbrev zZnF1_1 (p:Nat) (p':Nat) (x:List P2) (y:List P2):Prop :=
 (p'≤y.length∧((List.range p').any λ(m:Nat)=>q1b (x.getD (p:Int).toNat ((0:Int),(0:Int))) (x.getD (((p:Int)+1).tmod (x.length:Int)).toNat ((0:Int),(0:Int))) (rAt y m) (rAt y (m+(1:Nat)))==(2:Int))=false)
set_option maxRecDepth 100000 in
theorem cx_vc (x y:List P2) (h:qiy.pre (x,y)) :
  (∃ (p':Nat),(p'≤x.length∧((List.range p').any λ(i:Nat)=>(List.range y.length).any (qgc x y i))=false)∧((0:Int)=(p':Int)∧True∧True∧x=x∧(x.length:Int)=(x.length:Int)∧True)∧((x=x∧True)∧(y=y∧True)∧(false=false∧True)∧True)∧True∧True∧True∧(True∧True∧True)∧True∧True∧True∧True∧(True∧True∧True)∧True)∧∀ (p:Nat),p≤x.length∧((List.range p).any λ(i:Nat)=>(List.range y.length).any (qgc x y i))=false→bif decide ((p:Int)<(x.length:Int)) then (0≤(p:Int)∧(p:Int)<(x.length:Int))∧(zFit ((p:Int)+1))∧(x.length:Int)≠(0:Int)∧((0:Int)≤((p:Int)+1).tmod (x.length:Int)∧((p:Int)+1).tmod (x.length:Int)<(x.length:Int))∧(∃ (p':Nat),(zZnF1_1 p p' x y)∧((0:Int)=(p':Int)∧True∧True∧y=y∧(y.length:Int)=(y.length:Int)∧True)∧(zZnF1_0 p x y)∧True∧True∧True∧(True∧True∧True∧True∧True∧True∧x=x∧(x.length:Int)=(x.length:Int)∧(p:Int)=(p:Int)∧True∧True∧True)∧True∧True∧True∧True∧(True∧True∧True∧True∧True)∧True∧(True∧True∧True∧True∧True)∧True)∧∀ (p_1:Nat),p_1≤y.length∧((List.range p_1).any λ(m:Nat)=>q1b (x.getD (p:Int).toNat ((0:Int),(0:Int))) (x.getD (((p:Int)+1).tmod (x.length:Int)).toNat ((0:Int),(0:Int))) (rAt y m) (rAt y (m+(1:Nat)))==(2:Int))=false→bif decide ((p_1:Int)<(y.length:Int)) then (0≤(p_1:Int)∧(p_1:Int)<(y.length:Int))∧(zFit ((p_1:Int)+1))∧(y.length:Int)≠(0:Int)∧((0:Int)≤((p_1:Int)+1).tmod (y.length:Int)∧((p_1:Int)+1).tmod (y.length:Int)<(y.length:Int))∧(onB (x.getD (p:Int).toNat ((0:Int),(0:Int)))=true∧onB (x.getD (((p:Int)+1).tmod (x.length:Int)).toNat ((0:Int),(0:Int)))=true∧onB (y.getD (p_1:Int).toNat ((0:Int),(0:Int)))=true∧onB (y.getD (((p_1:Int)+1).tmod (y.length:Int)).toNat ((0:Int),(0:Int)))=true)∧bif q1b (x.getD (p:Int).toNat ((0:Int),(0:Int))) (x.getD (((p:Int)+1).tmod (x.length:Int)).toNat ((0:Int),(0:Int))) (y.getD (p_1:Int).toNat ((0:Int),(0:Int))) (y.getD (((p_1:Int)+1).tmod (y.length:Int)).toNat ((0:Int),(0:Int)))==(2:Int) then true=q3r x y else (zFit ((p_1:Int)+1))∧∃ (p':Nat),(zZnF1_1 p p' x y)∧y.length-p'<y.length-p_1∧((p_1:Int)+1=(p':Int)∧True∧True∧y=y∧(y.length:Int)=(y.length:Int)∧True)∧(zZnF1_0 p x y)∧True∧True∧True∧(True∧True∧True∧True∧True∧True∧x=x∧(x.length:Int)=(x.length:Int)∧(p:Int)=(p:Int)∧True∧True∧True)∧True∧True∧True∧True∧(True∧True∧True∧True∧True)∧True∧(True∧True∧True∧True∧True)∧True else (zFit ((p:Int)+1))∧∃ (p':Nat),(p'≤x.length∧((List.range p').any λ(i:Nat)=>(List.range y.length).any (qgc x y i))=false)∧x.length-p'<x.length-p∧((p:Int)+1=(p':Int)∧True∧True∧x=x∧(x.length:Int)=(x.length:Int)∧True)∧((x=x∧True)∧(y=y∧True)∧(false=false∧True)∧True)∧True∧True∧True∧(True∧True∧True)∧True∧True∧True∧True∧(True∧True∧True)∧True else false=q3r x y:=by
 delta zZnF1_0 zZnF1_1 zFit
 obtain ⟨⟨hl,hon⟩,hl2,hon2⟩:(x.length≤40∧x.all onB=true)∧(y.length≤40∧y.all onB=true):=h;simp only [and_true,eq_self,and_self];refine ⟨⟨0,⟨Nat.zero_le _,rfl⟩,rfl⟩,?_⟩;rintro p ⟨hp,ha⟩;have hti:((p:Int).toNat)=p:=rfl;refine bifP (λhb=>?_) λhb=>?_
 rotate_left
 ·have:p=x.length:=by have:=of_decide_eq_false hb;omega
  subst this;exact ha.symm
 have hlt:p<x.length:=by have:=of_decide_eq_true hb;omega
 have hn:0<x.length:=by omega
 have ti:=tm_in (p+1) hn;simp only [hti,tm1,at0 x hlt,atm];refine ⟨by omega,by omega,by omega,ti,⟨0,⟨Nat.zero_le _,rfl⟩,rfl⟩,?_⟩
 rintro m ⟨hm,hma⟩;have htm:((m:Int).toNat)=m:=rfl;refine bifP (λhb2=>?_) λhb2=>?_
 ·have hlt2:m<y.length:=by have:=of_decide_eq_true hb2;omega
  have hn2:0<y.length:=by omega
  have ti2:=tm_in (m+1) hn2;simp only [htm,at0 y hlt2];refine ⟨by omega,by omega,by omega,ti2,⟨q31 hon hn _,q31 hon hn _,q31 hon2 hn2 _,q31 hon2 hn2 _⟩,bifP (λhc=>?_) λhc=>⟨by omega,m+1,⟨by omega,?_⟩,by omega,by omega⟩⟩
  ·symm
   exact List.any_eq_true.2 ⟨p,List.mem_range.2 hlt,List.any_eq_true.2 ⟨m,List.mem_range.2 hlt2,hc⟩⟩
  ·rw [qfz,hma,Bool.false_or];exact hc
 ·have:m=y.length:=by have:=of_decide_eq_false hb2;omega
  subst this;refine ⟨by omega,p+1,⟨by omega,?_⟩,by omega,by omega⟩
  rw [qfz,ha,Bool.false_or];exact hma
def ptRow (l:List P2):Row:=⟨24,kPt,l⟩
def R.Get.rowP (r:Nat) (st:St):List P2:=match st.row r with
 | some y=>match y.fs.deq kPt with
  | some ⟨h⟩=>q3p h y.xs
  | none=>[]
 | none=>[]
def qij:Con:=.of 66 [q39,q39] [q39] (λq=>q0e q.1=true∧q0e q.2=true∧List.length q.2≤12) (λq=>q03 q.1 q.2)
def cLen:Con:=.of 73 [.one (.int .u64)] [q0s] (λn=>0≤n∧n<18446744073709551616) (λn=>(Go.Lib.bitLen (Int.toNat n):Int))
noncomputable def inlMi:List (Nat×Func):=qe9++[(89,Tryz.f89),(88,Tryz.f88),
 (119,Tryz.f119),(137,Tryz.f137),
 (91,Tryz.f91)]
noncomputable def kitMi:Kit:={ cons:=[cBet,cDist,cLen],inls:=inlMi }
abbrev rSt:Nat:=1719
abbrev rOut:Nat:=1767
abbrev upMi:List (Nat×List Nat):=[(25,[0,1,5,6,7]),(70,[3,5])]
abbrev boxMi:List Nat:=[15001,3,5,1706,1707]
abbrev R.Get.aAt (st:St):P2:=Get.boxOf kPt 1706 st
abbrev R.Get.bAt (st:St):P2:=Get.boxOf kPt 1707 st
def qaw (st:St) (l:List P2):List (Nat×Row):=[(rSt,ptRow l),(rOut,ptRow (Get.rowP rOut st))]
def anMi (y:List P2):List (Nat×Ann) :=
  [annX 2 (Nat×List P2) (λst p=>st.hd { live:=[3,5,6,7,20,21],sav:=savK 0 upMi,box:=boxMi,lp:=[3,5] } [(22,R.int .i64 p.1),(8,ownAV rSt)] [] (qaw st p.2) [] none)
     (λst p=>p.1≤y.length∧p.2=Get.aAt st::Get.bAt st::(y.take p.1).filter λq=>betI q (Get.aAt st) (Get.bAt st)) (λ_ p=>y.length-p.1),
   annX 4 (Nat×List P2) (λst p=>st.hd { live:=[3,5,8,41,42],sav:=savK 0 upMi,box:=[15001,3,5],lp:=[3,5] } [(43,R.int .i64 p.1)] [] [(rSt,ptRow (Get.rowP rSt st)),(rOut,ptRow p.2)] [] none)
     (λst p=>p.1+1≤(Get.rowP rSt st).length∧p.2=Get.rowP rOut st++(q3i (Get.rowP rSt st)).take p.1) (λst p=>(Get.rowP rSt st).length-p.1),
   annX 2000014 (List P2) (λst p=>st.hd { live:=[3,5],sav:=savK 0 upMi,box:=boxMi,lp:=[3,5] } [(8,ownAV rSt)] [] (qaw st p) [] none) (λst p=>p=q26 (Get.rowP rSt st)) (λ_ _=>0)]
def anPd:List (Nat×Ann) :=
 [annX 0 Unit (λst _=>st.hd { live:=[0,1,2,3,4,10,11],sav:=savK 0 ([(14,[]),(70,[3,5,6,7,8])]++upMi),box:=boxMi,lp:=[3,5] } [] [] (qaw st (Get.rowP rSt st)) [] none) (λ_ _=>True) (λ_ _=>0)]
def anIns:List (Nat×Ann) :=
  [annX 0 (Nat×List P2) (λst p=>st.hd { live:=[0,1,2,3],sav:=savK 0 ([(148,[]),(14,[]),(70,[3,5,6,7,8])]++upMi),box:=boxMi,lp:=[3,5] } [(8,R.int .i64 p.1)] [] (qaw st p.2) [] none)
     (λst p=>1≤p.1∧p.1≤(Get.rowP rSt st).length∧p.2.Perm (Get.rowP rSt st)∧UpTo (q0m (Get.aAt st)) p.2 p.1) (λst p=>(Get.rowP rSt st).length-p.1),
   annX 2 (Nat×List P2) (λst p=>st.hd { live:=[0,1,2,3,8],sav:=savK 0 ([(148,[]),(14,[]),(70,[3,5,6,7,8])]++upMi),box:=boxMi,lp:=[3,5] } [(9,R.int .i64 p.1)] [] (qaw st p.2) [] none)
     (λst p=>InsAt (q0m (Get.aAt st)) (Get.rowP rSt st) p.2 (st.intOf 8).toNat p.1) (λ_ p=>p.1),
   midAt 4]
def anCo:List (Nat×Ann) :=
  [annX 0 Nat (λst k=>st.hd { live:=[0],sav:=savK 0 ([(70,[3,5,6,7])]++upMi),box:=boxMi,lp:=[3,5] } [(3,R.int .i64 k)] [] (qaw st (Get.rowP rSt st)) [] none)
     (λst k=>1≤k∧k≤(Get.rowP rSt st).length∧q26 ((Get.rowP rSt st).take k)=(Get.rowP rSt st).take k) (λst k=>(Get.rowP rSt st).length-k),
   annX 2 (Nat×Nat×List P2) (λst p=>st.hd { live:=[0,4],sav:=savK 0 ([(70,[3,5,6,7])]++upMi),box:=boxMi,lp:=[3,5] } [(3,R.int .i64 p.1),(5,R.int .i64 p.2.1)] [] (qaw st p.2.2) [] none)
     (λst p=>CoAt (Get.rowP rSt st) p.2.2 (st.intOf 3).toNat p.1 p.2.1) (λst p=>(Get.rowP rSt st).length-p.2.1)]
def anMiI (x y:List P2):Nat→List (Nat×Ann):=λf =>
 bif Nat.beq f 112 then
  anSides (List P2) x (savK 0 [(70,[3,5])]) [3,5] [15001,3] (λ_ _=>[(5,[.own rOut])]) (λ_ l=>[(rOut,ptRow l)]) (λ_ i l=>l=q9z x y i)
 else bif Nat.beq f 119 then anPd
 else bif Nat.beq f 137 then anIns
 else bif Nat.beq f 91 then anCo
 else []
abbrev q2b (p:Nat×List P2) (x:List P2) (y:List P2):Prop :=
 ((x=x∧True)∧(y=y∧True)∧(True∧True)∧((x.getD (p.1:Int).toNat ((0:Int),(0:Int))).1=(x.getD (p.1:Int).toNat ((0:Int),(0:Int))).1∧(x.getD (p.1:Int).toNat ((0:Int),(0:Int))).2=(x.getD (p.1:Int).toNat ((0:Int),(0:Int))).2∧True)∧((x.getD (((p.1:Int)+1).tmod (x.length:Int)).toNat ((0:Int),(0:Int))).1=(x.getD (((p.1:Int)+1).tmod (x.length:Int)).toNat ((0:Int),(0:Int))).1∧(x.getD (((p.1:Int)+1).tmod (x.length:Int)).toNat ((0:Int),(0:Int))).2=(x.getD (((p.1:Int)+1).tmod (x.length:Int)).toNat ((0:Int),(0:Int))).2∧True)∧True)
abbrev q64 (p:Nat×List P2) (x:List P2):Prop :=
 (True∧True∧x=x∧(x.length:Int)=(x.length:Int)∧(p.1:Int)=(p.1:Int)∧True∧True∧True)
abbrev q87 (p:Nat×List P2) (x:List P2):Prop :=
 (True∧True∧True∧True∧True∧True∧True∧x=x∧(x.length:Int)=(x.length:Int)∧(p.1:Int)=(p.1:Int)∧True∧True∧True)
abbrev qh1 (p:Nat×List P2) (p':Nat×List P2) (x:List P2) (y:List P2):Prop :=
 (p'.1≤y.length∧p'.2=x.getD (p.1:Int).toNat ((0:Int),(0:Int))::x.getD (((p.1:Int)+1).tmod (x.length:Int)).toNat ((0:Int),(0:Int))::List.filter (λ(q:P2)=>betI q (x.getD (p.1:Int).toNat ((0:Int),(0:Int))) (x.getD (((p.1:Int)+1).tmod (x.length:Int)).toNat ((0:Int),(0:Int)))) (List.take p'.1 y))
abbrev qaj (p:Nat×List P2) (x:List P2):Prop :=
 (True∧True∧True∧True∧True∧True∧x=x∧(x.length:Int)=(x.length:Int)∧(p.1:Int)=(p.1:Int)∧True∧True∧True)
set_option maxRecDepth 100000 in
theorem mi_vc (x y:List P2) (h:qij.pre (x,y)) :
  (∃ (p':Nat×List P2),(p'.1≤x.length∧p'.2=q9z x y p'.1)∧((0:Int)=(p'.1:Int)∧True∧True∧x=x∧(x.length:Int)=(x.length:Int)∧True)∧((True∧True)∧(x=x∧True)∧(y=y∧True)∧True)∧(p'.2=[]∧True)∧True∧True∧(True∧True∧True)∧True∧True∧True∧True∧(True∧True∧True)∧True)∧∀ (p:Nat×List P2),p.1≤x.length∧p.2=q9z x y p.1→bif decide ((p.1:Int)<(x.length:Int)) then (0≤(p.1:Int)∧(p.1:Int)<(x.length:Int))∧(zFit ((p.1:Int)+1))∧(x.length:Int)≠(0:Int)∧((0:Int)≤((p.1:Int)+1).tmod (x.length:Int)∧((p.1:Int)+1).tmod (x.length:Int)<(x.length:Int))∧(∃ (p':Nat×List P2),(qh1 p p' x y)∧((0:Int)=(p'.1:Int)∧True∧True∧True∧True∧True∧y=y∧(y.length:Int)=(y.length:Int)∧True)∧(q2b p x y)∧([x.getD (p.1:Int).toNat ((0:Int),(0:Int)),x.getD (((p.1:Int)+1).tmod (x.length:Int)).toNat ((0:Int),(0:Int))]=p'.2∧p.2=p.2∧True)∧True∧True∧(q64 p x)∧True∧True∧True∧True∧(True∧True∧True)∧True)∧∀ (p_1:Nat×List P2),p_1.1≤y.length∧p_1.2=x.getD (p.1:Int).toNat ((0:Int),(0:Int))::x.getD (((p.1:Int)+1).tmod (x.length:Int)).toNat ((0:Int),(0:Int))::List.filter (λ(q:P2)=>betI q (x.getD (p.1:Int).toNat ((0:Int),(0:Int))) (x.getD (((p.1:Int)+1).tmod (x.length:Int)).toNat ((0:Int),(0:Int)))) (List.take p_1.1 y)→bif decide ((p_1.1:Int)<(y.length:Int)) then (0≤(p_1.1:Int)∧(p_1.1:Int)<(y.length:Int))∧True∧bif betI (y.getD (p_1.1:Int).toNat ((0:Int),(0:Int))) (x.getD (p.1:Int).toNat ((0:Int),(0:Int))) (x.getD (((p.1:Int)+1).tmod (x.length:Int)).toNat ((0:Int),(0:Int))) then (p_1.2.length+[y.getD (p_1.1:Int).toNat ((0:Int),(0:Int))].length)*(16:Nat)≤(140737488355328:Nat)∧(zFit ((p_1.1:Int)+1))∧∃ (p':Nat×List P2),(qh1 p p' x y)∧y.length-p'.1<y.length-p_1.1∧((p_1.1:Int)+1=(p'.1:Int)∧True∧True∧True∧True∧True∧y=y∧(y.length:Int)=(y.length:Int)∧True)∧(q2b p x y)∧(p_1.2++[y.getD (p_1.1:Int).toNat ((0:Int),(0:Int))]=p'.2∧p.2=p.2∧True)∧True∧True∧(q64 p x)∧True∧True∧True∧True∧(True∧True∧True)∧True else (zFit ((p_1.1:Int)+1))∧∃ (p':Nat×List P2),(qh1 p p' x y)∧y.length-p'.1<y.length-p_1.1∧((p_1.1:Int)+1=(p'.1:Int)∧True∧True∧True∧True∧True∧y=y∧(y.length:Int)=(y.length:Int)∧True)∧(q2b p x y)∧(p_1.2=p'.2∧p.2=p.2∧True)∧True∧True∧(q64 p x)∧True∧True∧True∧True∧(True∧True∧True)∧True else ((0:Int)≤IntKind.u64.wrap (p_1.2.length:Int)∧IntKind.u64.wrap (p_1.2.length:Int)<18446744073709551616)∧(∃ (p':Unit),True∧(True∧(0:Int)=0∧(p_1.2.length:Int)=(p_1.2.length:Int)∧(↑(Lib.bitLen (IntKind.u64.wrap (p_1.2.length:Int)).toNat):Int)=(↑(Lib.bitLen (IntKind.u64.wrap (p_1.2.length:Int)).toNat):Int)∧True∧true=true∧true=true∧True)∧(q2b p x y)∧(p_1.2=p_1.2∧p.2=p.2∧True)∧True∧True∧(q87 p x)∧True∧True∧True∧True∧(True∧True∧True)∧True)∧∀ (p_2:Unit),True→(zFit ((p_1.2.length:Int)-0))∧bif decide ((p_1.2.length:Int)-0≤(12:Int)) then (zFit ((0:Int)+1))∧(∃ (p':Nat×List P2),((1:Nat)≤p'.1∧p'.1≤p_1.2.length∧p'.2.Perm p_1.2∧UpTo (q0m (x.getD (p.1:Int).toNat ((0:Int),(0:Int)))) p'.2 p'.1)∧((0:Int)+1=(p'.1:Int)∧True∧(0:Int)=0∧(p_1.2.length:Int)=(p_1.2.length:Int)∧True∧True)∧(q2b p x y)∧(p_1.2=p'.2∧p.2=p.2∧True)∧True∧True∧(q87 p x)∧True∧True∧True∧True∧(True∧True∧True)∧True)∧∀ (p_3:Nat×List P2),(1:Nat)≤p_3.1∧p_3.1≤p_1.2.length∧p_3.2.Perm p_1.2∧UpTo (q0m (x.getD (p.1:Int).toNat ((0:Int),(0:Int)))) p_3.2 p_3.1→bif decide ((p_3.1:Int)<(p_1.2.length:Int)) then (∃ (p':Nat×List P2),InsAt (q0m (x.getD (p.1:Int).toNat ((0:Int),(0:Int)))) p_3.2 p'.2 (p_3.1:Int).toNat p'.1∧((p_3.1:Int)=(p'.1:Int)∧True∧(0:Int)=0∧(p_1.2.length:Int)=(p_1.2.length:Int)∧True∧(p_3.1:Int)=(p_3.1:Int)∧True)∧(q2b p x y)∧(p_3.2=p'.2∧p.2=p.2∧True)∧True∧True∧(q87 p x)∧True∧True∧True∧True∧(True∧True∧True)∧True)∧∀ (p_4:Nat×List P2),InsAt (q0m (x.getD (p.1:Int).toNat ((0:Int),(0:Int)))) p_3.2 p_4.2 (p_3.1:Int).toNat p_4.1→bif decide (0<(p_4.1:Int)) then (0≤(p_4.1:Int)∧(p_4.1:Int)<(p_4.2.length:Int))∧(zFit ((p_4.1:Int)-1))∧(0≤(p_4.1:Int)-1∧(p_4.1:Int)-1<(p_4.2.length:Int))∧True∧True∧(zFit (q0m (x.getD (p.1:Int).toNat ((0:Int),(0:Int))) (p_4.2.getD (p_4.1:Int).toNat ((0:Int),(0:Int)))-q0m (x.getD (p.1:Int).toNat ((0:Int),(0:Int))) (p_4.2.getD ((p_4.1:Int)-1).toNat ((0:Int),(0:Int)))))∧bif decide (q0m (x.getD (p.1:Int).toNat ((0:Int),(0:Int))) (p_4.2.getD (p_4.1:Int).toNat ((0:Int),(0:Int)))-q0m (x.getD (p.1:Int).toNat ((0:Int),(0:Int))) (p_4.2.getD ((p_4.1:Int)-1).toNat ((0:Int),(0:Int)))<(0:Int)) then (zFit ((p_4.1:Int)-1))∧(0≤(p_4.1:Int)-1∧(p_4.1:Int)-1<(p_4.2.length:Int))∧(0≤(p_4.1:Int)∧(p_4.1:Int)<(p_4.2.length:Int))∧(0≤(p_4.1:Int)∧(p_4.1:Int)<(p_4.2.length:Int))∧(zFit ((p_4.1:Int)-1))∧bif (p_4.1:Int).toNat.beq (p_4.1:Int).toNat then (0≤(p_4.1:Int)-1∧(p_4.1:Int)-1<(↑(p_4.2.set (p_4.1:Int).toNat (p_4.2.getD ((p_4.1:Int)-1).toNat ((0:Int),(0:Int)))).length:Int))∧bif ((p_4.1:Int)-1).toNat.beq ((p_4.1:Int)-1).toNat then (zFit ((p_4.1:Int)-1))∧∃ (p':Nat×List P2),InsAt (q0m (x.getD (p.1:Int).toNat ((0:Int),(0:Int)))) p_3.2 p'.2 (p_3.1:Int).toNat p'.1∧p'.1<p_4.1∧((p_4.1:Int)-1=(p'.1:Int)∧True∧(0:Int)=0∧(p_1.2.length:Int)=(p_1.2.length:Int)∧True∧(p_3.1:Int)=(p_3.1:Int)∧True)∧(q2b p x y)∧((p_4.2.set (p_4.1:Int).toNat (p_4.2.getD ((p_4.1:Int)-1).toNat ((0:Int),(0:Int)))).set ((p_4.1:Int)-1).toNat (p_4.2.getD (p_4.1:Int).toNat ((0:Int),(0:Int)))=p'.2∧p.2=p.2∧True)∧True∧True∧(q87 p x)∧True∧True∧True∧True∧(True∧True∧True)∧True else False else False else (zFit ((p_3.1:Int)+1))∧∃ (p':Nat×List P2),((1:Nat)≤p'.1∧p'.1≤p_1.2.length∧p'.2.Perm p_1.2∧UpTo (q0m (x.getD (p.1:Int).toNat ((0:Int),(0:Int)))) p'.2 p'.1)∧p_1.2.length-p'.1<p_1.2.length-p_3.1∧((p_3.1:Int)+1=(p'.1:Int)∧True∧(0:Int)=0∧(p_1.2.length:Int)=(p_1.2.length:Int)∧True∧True)∧(q2b p x y)∧(p_4.2=p'.2∧p.2=p.2∧True)∧True∧True∧(q87 p x)∧True∧True∧True∧True∧(True∧True∧True)∧True else (zFit ((p_3.1:Int)+1))∧∃ (p':Nat×List P2),((1:Nat)≤p'.1∧p'.1≤p_1.2.length∧p'.2.Perm p_1.2∧UpTo (q0m (x.getD (p.1:Int).toNat ((0:Int),(0:Int)))) p'.2 p'.1)∧p_1.2.length-p'.1<p_1.2.length-p_3.1∧((p_3.1:Int)+1=(p'.1:Int)∧True∧(0:Int)=0∧(p_1.2.length:Int)=(p_1.2.length:Int)∧True∧True)∧(q2b p x y)∧(p_4.2=p'.2∧p.2=p.2∧True)∧True∧True∧(q87 p x)∧True∧True∧True∧True∧(True∧True∧True)∧True else (bif decide ((p_3.2.length:Int)<2) then ∃ (p':List P2),p'=q26 p_3.2∧(True∧True∧True∧True)∧(q2b p x y)∧(p_3.2=p'∧p.2=p.2∧True)∧True∧True∧(q64 p x)∧True∧True∧True∧True∧(True∧True∧True)∧True else (∃ (p':Nat),((1:Nat)≤p'∧p'≤p_3.2.length∧q26 (List.take p' p_3.2)=List.take p' p_3.2)∧((1:Int)=(p':Int)∧True∧True)∧(q2b p x y)∧(p_3.2=p_3.2∧p.2=p.2∧True)∧True∧True∧(qaj p x)∧True∧True∧True∧True∧(True∧True∧True)∧True)∧∀ (p_4:Nat),(1:Nat)≤p_4∧p_4≤p_3.2.length∧q26 (List.take p_4 p_3.2)=List.take p_4 p_3.2→bif decide ((p_4:Int)<(p_3.2.length:Int)) then (0≤(p_4:Int)∧(p_4:Int)<(p_3.2.length:Int))∧(zFit ((p_4:Int)-1))∧(0≤(p_4:Int)-1∧(p_4:Int)-1<(p_3.2.length:Int))∧bif (p_3.2.getD (p_4:Int).toNat ((0:Int),(0:Int))).1==(p_3.2.getD ((p_4:Int)-1).toNat ((0:Int),(0:Int))).1&&((p_3.2.getD (p_4:Int).toNat ((0:Int),(0:Int))).2==(p_3.2.getD ((p_4:Int)-1).toNat ((0:Int),(0:Int))).2&&true) then (0≤(p_4:Int)∧(p_4:Int)<(p_3.2.length:Int))∧(∃ (p':Nat×Nat×List P2),CoAt p_3.2 p'.2.2 (p_4:Int).toNat p'.1 p'.2.1∧((p_4:Int)=(p'.1:Int)∧(1:Int)=(p'.2.1:Int)∧True∧(p_4:Int).toNat=(p_4:Int).toNat∧True)∧(q2b p x y)∧(p_3.2=p'.2.2∧p.2=p.2∧True)∧True∧True∧(qaj p x)∧True∧True∧True∧True∧(True∧True∧True)∧True)∧∀ (p_5:Nat×Nat×List P2),CoAt p_3.2 p_5.2.2 (p_4:Int).toNat p_5.1 p_5.2.1→bif decide ((p_5.2.1:Int)<(↑(p_5.2.2.length-(p_4:Int).toNat):Int)) then (0≤(p_5.2.1:Int)∧(p_5.2.1:Int)<(↑(p_5.2.2.length-(p_4:Int).toNat):Int))∧(zFit ((p_5.2.1:Int)-1))∧(0≤(p_5.2.1:Int)-1∧(p_5.2.1:Int)-1<(↑(p_5.2.2.length-(p_4:Int).toNat):Int))∧bif !((p_5.2.2.getD ((p_4:Int).toNat+(p_5.2.1:Int).toNat) ((0:Int),(0:Int))).1==(p_5.2.2.getD ((p_4:Int).toNat+((p_5.2.1:Int)-1).toNat) ((0:Int),(0:Int))).1&&((p_5.2.2.getD ((p_4:Int).toNat+(p_5.2.1:Int).toNat) ((0:Int),(0:Int))).2==(p_5.2.2.getD ((p_4:Int).toNat+((p_5.2.1:Int)-1).toNat) ((0:Int),(0:Int))).2&&true)) then (0≤(p_5.2.1:Int)∧(p_5.2.1:Int)<(↑(p_5.2.2.length-(p_4:Int).toNat):Int))∧(0≤(p_5.1:Int)∧(p_5.1:Int)<(p_5.2.2.length:Int))∧bif (p_5.1:Int).toNat.beq (p_5.1:Int).toNat then (zFit ((p_5.1:Int)+1))∧(zFit ((p_5.2.1:Int)+1))∧∃ (p':Nat×Nat×List P2),CoAt p_3.2 p'.2.2 (p_4:Int).toNat p'.1 p'.2.1∧p_3.2.length-p'.2.1<p_3.2.length-p_5.2.1∧((p_5.1:Int)+1=(p'.1:Int)∧(p_5.2.1:Int)+1=(p'.2.1:Int)∧True∧(p_4:Int).toNat=(p_4:Int).toNat∧True)∧(q2b p x y)∧(p_5.2.2.set (p_5.1:Int).toNat (p_5.2.2.getD ((p_4:Int).toNat+(p_5.2.1:Int).toNat) ((0:Int),(0:Int)))=p'.2.2∧p.2=p.2∧True)∧True∧True∧(qaj p x)∧True∧True∧True∧True∧(True∧True∧True)∧True else False else (zFit ((p_5.2.1:Int)+1))∧∃ (p':Nat×Nat×List P2),CoAt p_3.2 p'.2.2 (p_4:Int).toNat p'.1 p'.2.1∧p_3.2.length-p'.2.1<p_3.2.length-p_5.2.1∧((p_5.1:Int)=(p'.1:Int)∧(p_5.2.1:Int)+1=(p'.2.1:Int)∧True∧(p_4:Int).toNat=(p_4:Int).toNat∧True)∧(q2b p x y)∧(p_5.2.2=p'.2.2∧p.2=p.2∧True)∧True∧True∧(qaj p x)∧True∧True∧True∧True∧(True∧True∧True)∧True else (0≤(p_5.1:Int)∧(p_5.1:Int)<(p_5.2.2.length:Int))∧(0≤(p_5.1:Int)∧(p_5.1:Int)≤(↑(List.take (p_5.1:Int).toNat p_5.2.2++List.replicate (p_5.2.2.length-(p_5.1:Int).toNat) ((0:Int),(0:Int))).length:Int))∧∃ (p':List P2),p'=q26 p_3.2∧(True∧True∧True∧True)∧(q2b p x y)∧(List.take (p_5.1:Int).toNat (List.take (p_5.1:Int).toNat p_5.2.2++List.replicate (p_5.2.2.length-(p_5.1:Int).toNat) ((0:Int),(0:Int)))=p'∧p.2=p.2∧True)∧True∧True∧(q64 p x)∧True∧True∧True∧True∧(True∧True∧True)∧True else (zFit ((p_4:Int)+1))∧∃ (p':Nat),((1:Nat)≤p'∧p'≤p_3.2.length∧q26 (List.take p' p_3.2)=List.take p' p_3.2)∧p_3.2.length-p'<p_3.2.length-p_4∧((p_4:Int)+1=(p':Int)∧True∧True)∧(q2b p x y)∧(p_3.2=p_3.2∧p.2=p.2∧True)∧True∧True∧(qaj p x)∧True∧True∧True∧True∧(True∧True∧True)∧True else ∃ (p':List P2),p'=q26 p_3.2∧(True∧True∧True∧True)∧(q2b p x y)∧(p_3.2=p'∧p.2=p.2∧True)∧True∧True∧(q64 p x)∧True∧True∧True∧True∧(True∧True∧True)∧True)∧∀ (p_4:List P2),p_4=q26 p_3.2→((0:Int)≤1∧1<(p_4.length:Int))∧(∃ (p':Nat×List P2),(p'.1+(1:Nat)≤p_4.length∧p'.2=p.2++List.take p'.1 (q3i p_4))∧((0:Int)=(p'.1:Int)∧True∧True∧True∧(1:Nat)=(1:Nat)∧(↑(p_4.length-(1:Nat)):Int)=(↑(p_4.length-(1:Nat)):Int)∧True)∧((x=x∧True)∧(y=y∧True)∧(True∧True)∧True)∧(p_4=p_4∧p.2=p'.2∧True)∧True∧True∧(q64 p x)∧True∧True∧True∧True∧(True∧True∧True)∧True)∧∀ (p_5:Nat×List P2),p_5.1+(1:Nat)≤p_4.length∧p_5.2=p.2++List.take p_5.1 (q3i p_4)→bif decide ((p_5.1:Int)<(↑(p_4.length-(1:Nat)):Int)) then (0≤(p_5.1:Int)∧(p_5.1:Int)<(↑(p_4.length-(1:Nat)):Int))∧(0≤(p_5.1:Int)∧(p_5.1:Int)<(p_4.length:Int))∧(zFit ((p_4.getD (p_5.1:Int).toNat ((0:Int),(0:Int))).1+(p_4.getD ((1:Nat)+(p_5.1:Int).toNat) ((0:Int),(0:Int))).1))∧(0≤(p_5.1:Int)∧(p_5.1:Int)<(p_4.length:Int))∧(zFit ((p_4.getD (p_5.1:Int).toNat ((0:Int),(0:Int))).2+(p_4.getD ((1:Nat)+(p_5.1:Int).toNat) ((0:Int),(0:Int))).2))∧(p_5.2.length+[((p_4.getD (p_5.1:Int).toNat ((0:Int),(0:Int))).1+(p_4.getD ((1:Nat)+(p_5.1:Int).toNat) ((0:Int),(0:Int))).1,(p_4.getD (p_5.1:Int).toNat ((0:Int),(0:Int))).2+(p_4.getD ((1:Nat)+(p_5.1:Int).toNat) ((0:Int),(0:Int))).2)].length)*(16:Nat)≤(140737488355328:Nat)∧(zFit ((p_5.1:Int)+1))∧∃ (p':Nat×List P2),(p'.1+(1:Nat)≤p_4.length∧p'.2=p.2++List.take p'.1 (q3i p_4))∧p_4.length-p'.1<p_4.length-p_5.1∧((p_5.1:Int)+1=(p'.1:Int)∧True∧True∧True∧(1:Nat)=(1:Nat)∧(↑(p_4.length-(1:Nat)):Int)=(↑(p_4.length-(1:Nat)):Int)∧True)∧((x=x∧True)∧(y=y∧True)∧(True∧True)∧True)∧(p_4=p_4∧p_5.2++[((p_4.getD (p_5.1:Int).toNat ((0:Int),(0:Int))).1+(p_4.getD ((1:Nat)+(p_5.1:Int).toNat) ((0:Int),(0:Int))).1,(p_4.getD (p_5.1:Int).toNat ((0:Int),(0:Int))).2+(p_4.getD ((1:Nat)+(p_5.1:Int).toNat) ((0:Int),(0:Int))).2)]=p'.2∧True)∧True∧True∧(q64 p x)∧True∧True∧True∧True∧(True∧True∧True)∧True else (zFit ((p.1:Int)+1))∧∃ (p':Nat×List P2),(p'.1≤x.length∧p'.2=q9z x y p'.1)∧x.length-p'.1<x.length-p.1∧((p.1:Int)+1=(p'.1:Int)∧True∧True∧x=x∧(x.length:Int)=(x.length:Int)∧True)∧((True∧True)∧(x=x∧True)∧(y=y∧True)∧True)∧(p_5.2=p'.2∧True)∧True∧True∧(True∧True∧True)∧True∧True∧True∧True∧(True∧True∧True)∧True else bif (↑(Lib.bitLen (IntKind.u64.wrap (p_1.2.length:Int)).toNat):Int)==(0:Int) then False else False else p.2=q03 x y:=by
 delta q2b q64 q87 qh1 qaj zFit
 obtain ⟨hvx,hvy,h12⟩:q0e x=true∧q0e y=true∧y.length≤12:=h;have hx:=Geo.q4b hvx;have hl:x.length≤40:=(q5q hvx).2.1;have h3:3≤x.length:=hx.three;simp only [and_true,true_and,eq_self,and_self];refine ⟨⟨(0,[]),⟨Nat.zero_le _,rfl⟩,rfl,rfl⟩,?_⟩;rintro ⟨p,out⟩ ⟨hp,hout⟩;dsimp only at hp hout ⊢;refine bifP (λhb=>?_) λhb=>?_
 rotate_left
 ·have:p=x.length:=by have:=of_decide_eq_false hb;omega
  subst this;exact hout
 have hlt:p<x.length:=by have:=of_decide_eq_true hb;omega
 have hn:0<x.length:=by omega
 have ti:=tm_in (p+1) hn;have ho:=qf6 hvx hvy h12 p;have hol:out.length≤480:=by rw [hout];omega
 have hab:=hx.ne p;have ha:=hx.on' p;have hbb:=hx.on' (p+1);have hms:=qju x y p;rw [← hout] at hms;simp only [Int.toNat_natCast,tm1,at0 x hlt,atm'];clear hout ho;generalize rAt x p=a at *
 generalize rAt x (p+1)=b at *
 refine ⟨by omega,by omega,by omega,ti,⟨(0,[a,b]),⟨Nat.zero_le _,rfl⟩,rfl,rfl⟩,?_⟩
 rintro ⟨m,st⟩ ⟨hm,hst⟩;dsimp only at hm hst ⊢;have hlen:st.length≤2+m:=by
  have h1:=List.length_filter_le (λq=>betI q a b) (y.take m)
  have h2:=List.length_take_le m y;rw [hst,List.length_cons,List.length_cons];omega
 refine bifP (λhb2=>?_) λhb2=>?_
 ·have hlt2:m<y.length:=by have:=of_decide_eq_true hb2;omega
  simp only [at0 y hlt2];have hstep:=q1x y z0 m hlt2;rw [at0 y hlt2] at hstep;refine ⟨by omega,bifP (λhc=>⟨by simp only [List.length_cons,List.length_nil];omega,by omega,(m+1,st++[rAt y m]),⟨by omega,?_⟩,by omega,by omega,rfl⟩) λhc=>⟨by omega,(m+1,st),⟨by omega,?_⟩,by omega,by omega,rfl⟩⟩
  ·dsimp only
   rw [hstep,List.filter_append,hst,List.filter_cons,hc];rfl
  ·dsimp only
   rw [hstep,List.filter_append,hst,List.filter_cons,hc];simp
 have:m=y.length:=by have:=of_decide_eq_false hb2;omega
 subst this;rw [List.take_length] at hst;have hst:st=cutsL y a b:=hst;have hfew:st.length≤12:=by rw [hst];exact cuts_few hvy h12 hab
 have h2st:2≤st.length:=by rw [hst];show 2≤_+1+1;omega
 have hw:IntKind.u64.wrap (st.length:Int)=st.length:=by simp [IntKind.wrap,IntKind.bits,IntKind.signed];omega
 rw [hw];refine ⟨by omega,⟨(),trivial⟩,λ_ _=>⟨by omega,bifP (λhc=>?_) λhc=>absurd (of_decide_eq_false hc) (by omega)⟩⟩
 refine ⟨by omega,⟨(1,st),⟨Nat.le_refl _,by omega,List.Perm.refl _,λm n h1 h2=>by omega⟩,rfl,rfl⟩,?_⟩
 rintro ⟨i,L⟩ ⟨hi1,hi2,hperm,hup⟩;dsimp only at hi1 hi2 hperm hup ⊢;have hLl:=hperm.length_eq;refine bifP (λhci=>?_) λhci=>?_
 ·have hil:i<st.length:=by have:=of_decide_eq_true hci;omega
  try simp only [Int.toNat_natCast]
  refine ⟨⟨(i,L),ins_start (List.Perm.refl _) (by dsimp only;omega) hup,rfl,rfl⟩,?_⟩
  rintro ⟨j,M⟩ hins;dsimp only at hins ⊢;have hMl:=hins.1.length_eq;have hji:=hins.2.1;refine bifP (λhj=>?_) λhj=>?_
  ·have hj0:0<j:=by have:=of_decide_eq_true hj;omega
   have e1:((j:Int)-1).toNat=j-1:=by omega
   have d1:=qj1 a (M.getD j z0);have d2:=qj1 a (M.getD (j-1) z0);simp only [e1];refine ⟨by omega,by omega,by omega,by dsimp only [z0] at d1 d2;omega,bifP (λhlt=>?_) λhge=>?_⟩
   ·have hlt:=of_decide_eq_true hlt
    rw [show Nat.beq j j=true from Nat.beq_refl j,show Nat.beq (j-1) (j-1)=true from Nat.beq_refl (j-1),cond_true,cond_true];refine ⟨by omega,by omega,by omega,by omega,by omega,by rw [List.length_set];omega,by omega,(j-1,swapL M j),ins_step hins hj0 (by dsimp only [z0] at d1 d2 ⊢;omega),by dsimp only;omega,by dsimp only;omega,rfl⟩
   ·have hge:=of_decide_eq_false hge
    exact ⟨by omega,(i+1,M),⟨by omega,by omega,hins.1.trans hperm,ins_end hins (.inr (by dsimp only [z0] at d1 d2 ⊢;omega))⟩,by omega,by omega,rfl⟩
  ·have hj0:j=0:=by have:=of_decide_eq_false hj;omega
   exact ⟨by omega,(i+1,M),⟨by omega,by omega,hins.1.trans hperm,ins_end hins (.inl hj0)⟩,by omega,by omega,rfl⟩
 have hil:i=st.length:=by have:=of_decide_eq_false hci;omega
 rw [hil,← hLl] at hup;rw [hst] at hperm;have hS:=qik ha hbb hab hperm hup;have hSl:=stops_len hvy h12 hab hperm;have hS2:2≤(q26 L).length:=two_of_ne (a:=a) (b:=b) ((qan _ _).2 (hperm.mem_iff.2 (List.mem_cons_self ..))) ((qan _ _).2 (hperm.mem_iff.2 (List.mem_cons_of_mem _ (List.mem_cons_self ..)))) hab;refine ⟨bifP (λh2=>⟨_,rfl,?_⟩) λh2=>⟨⟨1,⟨Nat.le_refl _,by omega,qin L⟩,rfl⟩,?_⟩,?_⟩
 ·have:=of_decide_eq_true h2;omega
 ·rintro k ⟨hk1,hk2,hkc⟩
  have e1:((k:Int)-1).toNat=k-1:=by omega
  simp only [e1,Bool.and_true];refine bifP (λhkl=>?_) λhkl=>?_
  ·have hkl:k<L.length:=by have:=of_decide_eq_true hkl;omega
   refine ⟨by omega,by omega,by omega,bifP (λhe=>?_) λhe=>?_⟩
   ·refine ⟨by omega,⟨(k,1,L),co_start hk1 hkl hkc he,⟨rfl,rfl⟩,rfl⟩,?_⟩
    rintro ⟨kk,k2,c⟩ hco;dsimp only at hco ⊢;obtain ⟨a1,a2,a3,a4,a5,a6,a7,a8,a9⟩:=id hco;have e2:((k2:Int)-1).toNat=k2-1:=by omega
    have e3:k+(k2-1)=k+k2-1:=by omega
    simp only [e2,e3];refine bifP (λhk2=>?_) λhk2=>?_
    ·have hk2:k+k2<L.length:=by have:=of_decide_eq_true hk2;omega
     refine ⟨by omega,by omega,by omega,bifP (λhne=>?_) λheq=>?_⟩
     ·rw [show Nat.beq kk kk=true from Nat.beq_refl kk,cond_true]
      exact ⟨by omega,by omega,by omega,by omega,(kk+1,k2+1,_),co_keep hco hk2 (cast (Bool.not_eq_true' _) hne),by dsimp only;omega,⟨by dsimp only;omega,by dsimp only;omega⟩,rfl⟩
     ·exact ⟨by omega,(kk,k2+1,c),co_skip hco hk2 (cast (Bool.not_eq_false' _) heq),by dsimp only;omega,⟨rfl,by dsimp only;omega⟩,rfl⟩
    ·have hk2:L.length≤k+k2:=by have:=of_decide_eq_false hk2;omega
     exact ⟨by omega,by simp only [List.length_append,List.length_take,List.length_replicate];omega,_,rfl,co_end hco hk2 _⟩
   ·refine ⟨by omega,k+1,⟨by omega,by omega,?_⟩,by omega,by omega⟩
    have he:(L.getD k z0==L.getD (k-1) z0)=false:=he;rw [qbq L hk1 hkl,hkc,he,q1x L z0 k hkl];simp
  ·have hkl:k=L.length:=by have:=of_decide_eq_false hkl;omega
   refine ⟨_,rfl,?_⟩;rw [hkl,List.take_length] at hkc;exact hkc.symm
 ·rintro S rfl
  refine ⟨by omega,⟨(0,out),⟨by omega,by simp⟩,rfl,rfl⟩,?_⟩
  rintro ⟨q,o⟩ ⟨hq,hoq⟩;dsimp only at hq hoq ⊢;have hoql:o.length≤480+12:=by
   have:=List.length_take_le q (q3i (q26 L))
   rw [hoq,List.length_append];omega
  have on:∀ k,k<(q26 L).length→onB ((q26 L).getD k z0)=true:=λk hk=>by
   have h1:=(qan L _).1 (q1v (q26 L) z0 k hk);rcases List.mem_cons.1 (hperm.mem_iff.1 h1) with e | h1
   ·rw [e];exact ha
   ·rcases List.mem_cons.1 h1 with e | h1
    ·rw [e];exact hbb
    ·exact Geo.q9d (List.mem_filter.1 h1).2
  refine bifP (λhqb=>?_) λhqb=>?_
  ·have hq1:q+1<(q26 L).length:=by have:=of_decide_eq_true hqb;omega
   have o1:=q1i (on q (by omega))
   have o2:=q1i (on (q+1) hq1);dsimp only [z0] at o1 o2;simp only [show 1+q=q+1 by omega,List.length_cons,List.length_nil]
   refine ⟨by omega,by omega,by omega,by omega,by omega,by omega,by omega,(q+1,_),⟨by omega,?_⟩,by omega,by omega,rfl⟩
   dsimp only;rw [mids_take _ hq1,← List.append_assoc,hoq]
  ·have hq1:q+1=(q26 L).length:=by have:=of_decide_eq_false hqb;omega
   refine ⟨by omega,(p+1,o),⟨by omega,?_⟩,by omega,by omega,rfl⟩
   dsimp only;rw [hms,hoq,hS,List.take_of_length_le (by rw [qeh,← hS];omega)]
def cWithin:Con:=.of 45 [q39,q39] [q10] (λq=>List.length q.1≤12∧List.length q.2≤12) (λq=>q0j q.1 q.2)
def cApartP:Con:=.of 41 [q39,q39] [q10] (λq=>List.length q.1≤12∧List.length q.2≤12) (λq=>q2t q.1 q.2)
def qib:Con:=.of 25 [q39,ckPt] [q0s] (λq=>List.length q.1≤1000∧onB q.2=true) (λq=>q0i q.1 q.2)
def cWhere:Con:=.of 25 [q39,ckPt] [q0s] (λq=>List.length q.1≤1000) (λq=>q0i q.1 q.2)
def fOutside:FCon:={ f:=48,args:=[q39,ckPt],fa:=.no,res:=[q10],pre:=λq _=>q1h q.1∧q28 q.2,F:=λq _=>q0p q.1 q.2 }
def fInside:FCon:={ f:=49,args:=[q39,ckPt],fa:=.no,res:=[q10],pre:=λq _=>q1h q.1∧q28 q.2,F:=λq _=>q17 q.1 q.2 }
noncomputable def inlHasP:List (Nat×Func):=[(67,Tryz.f67),(92,Tryz.f92)]
noncomputable def kitWi:Kit:={ cons:=[cRing,qiy,qij],fcs:=[fOutside,fInside],inls:=inlHasP }
def anWi (x y:List P2):Nat→List (Nat×Ann):=λf=>bif Nat.beq f 92 then
 [annX 0 Nat (λst k=>st.hd { live:=[0,1,6,7],sav:=savK 0 [(9,[]),(30,[21])],box:=[] } [(8,R.int .i64 k)] [] [] [] none)
  (λ_ k=>k≤(q03 x y).length∧((q03 x y).take k).any (q0p y)=false) (λ_ k=>(q03 x y).length-k)] else []
def anAp (x y:List P2):Nat→List (Nat×Ann):=λf=>bif Nat.beq f 92 then
 [annX 0 Nat (λst k=>st.hd { live:=[0,1,6,7],sav:=savK 0 [(9,[]),(46,[5,6,7,30,37])],box:=[] } [(8,R.int .i64 k)] [] [] [] none)
  (λst k=>bif st.off.beq 30008000 then k≤(q03 x y).length∧((q03 x y).take k).any (q0p y)=false
   else bif st.off.beq 35008000 then k≤(q03 x y).length∧((q03 x y).take k).any (q17 y)=false
   else k≤(q03 y x).length∧((q03 y x).take k).any (q17 x)=false)
  (λst k=>bif st.off.beq 44008000 then (q03 y x).length-k else (q03 x y).length-k)] else []
set_option maxRecDepth 100000 in
theorem wi_vc (x y:List P2) (h:cWithin.pre (x,y)) :
    x.length≤(1000:Nat)∧bif q0e x then y.length≤(1000:Nat)∧bif q0e y then (q1h x∧q1h y)∧bif !q3r x y then (q0e x=true∧q0e y=true∧y.length≤(12 :
    Nat))∧(∃ (p':Nat),(p'≤(q03 x y).length∧(List.take p' (q03 x y)).any (q0p y)=false)∧((0:Int)=(p':Int)∧q03 x y=q03 x y∧y=y∧q03 x y =
    q03 x y∧(↑(q03 x y).length:Int)=(↑(q03 x y).length:Int)∧True)∧True∧True∧True∧True∧(true=true∧True)∧True∧True∧True∧True)∧∀ (p:Nat),p ≤
    (q03 x y).length∧(List.take p (q03 x y)).any (q0p y)=false→bif decide ((p:Int)<(↑(q03 x y).length:Int)) then ((0:Int)≤(p:Int)∧(p:Int) <
    (↑(q03 x y).length:Int))∧(q1h y∧q28 ((q03 x y).getD (p:Int).toNat ((0:Int),(0:Int))))∧bif q0p y ((q03 x y).getD (p:Int).toNat ((0:Int),(0 :
    Int))) then (!decide ((0:Int)≤(p:Int)))=q0j x y else ((-9223372036854775808:Int)≤(p:Int)+(1:Int)∧(p:Int)+(1:Int)≤(9223372036854775807:Int))∧∃ (p' :
    Nat),(p'≤(q03 x y).length∧(List.take p' (q03 x y)).any (q0p y)=false)∧(q03 x y).length-p'<(q03 x y).length-p∧((p:Int)+(1:Int)=(p':Int) ∧
    q03 x y=q03 x y∧y=y∧q03 x y=q03 x y∧(↑(q03 x y).length:Int)=(↑(q03 x y).length:Int)∧True)∧True∧True∧True∧True∧(true=true∧True)
    ∧ True∧True∧True∧True else (!decide ((0:Int)≤(-1:Int)))=q0j x y else false=q0j x y else false=q0j x y else false=q0j x y
     := by
  obtain ⟨h1,h2⟩:x.length≤12∧y.length≤12:=h;simp only [and_true,eq_self,and_self];have hW:q0j x y=(q0e x&&(q0e y&&(!q3r x y&&!(q03 x y).any (q0p y)))):=rfl;rw [hW];refine ⟨by omega,bifP (λhx=>⟨by omega,bifP (λhy=>?_) λhy=>by rw [hx,hy];rfl⟩) λhx=>by rw [hx];rfl⟩
  have vx:=q5q hx;have vy:=q5q hy;rw [hx,hy,Bool.true_and,Bool.true_and];refine ⟨⟨⟨vx.2.1,vx.2.2⟩,vy.2.1,vy.2.2⟩,bifP (λhc=>?_) λhc=>by rw [hc];rfl⟩
  rw [hc,Bool.true_and];refine ⟨⟨rfl,rfl,h2⟩,qdo _ _ (by have:=qh0 hx hy h2;omega) (Pre:=λm=>q1h y∧q28 m) (λm hm=>⟨⟨vy.2.1,vy.2.2⟩,qdw hx hy hm⟩) (λp hp hf=>?_) λha=>?_⟩
  · rw [qgp _ z0 _ p hp hf,decide_eq_true (show (0:Int)≤(p:Int) by omega)]
  · rw [ha];rfl
set_option maxRecDepth 100000 in
theorem ap_vc (x y:List P2) (h:cApartP.pre (x,y)) :
    x.length≤(1000:Nat)∧bif !q0e x then false=q2t x y else y.length≤(1000:Nat)∧bif !q0e y then false=q2t x y else (q1h x∧q1h y)∧bif q3r x y then false
    = q2t x y else (q0e x=true∧q0e y=true∧y.length≤(12:Nat))∧(∃ (p':Nat),(p'≤(q03 x y).length∧(List.take p' (q03 x y)).any (q0p y)=false)∧((0 :
    Int)=(p':Int)∧q03 x y=q03 x y∧y=y∧q03 x y=q03 x y∧(↑(q03 x y).length:Int)=(↑(q03 x y).length:Int)∧True)∧True∧True∧True∧True ∧
    (x=x∧y=y∧q03 x y=q03 x y∧True∧True∧True)∧True∧True∧True∧True)∧∀ (p:Nat),p≤(q03 x y).length∧(List.take p (q03 x y)).any (q0p y) =
    false→bif decide ((p:Int)<(↑(q03 x y).length:Int)) then ((0:Int)≤(p:Int)∧(p:Int)<(↑(q03 x y).length:Int))∧(q1h y∧q28 ((q03 x y).getD (↑p :
    Int).toNat ((0:Int),(0:Int))))∧bif q0p y ((q03 x y).getD (p:Int).toNat ((0:Int),(0:Int))) then (∃ (p':Nat),(p'≤(q03 x y).length∧(List.take p' (q03 x
    y)).any (q17 y)=false)∧((0:Int)=(p':Int)∧q03 x y=q03 x y∧y=y∧q03 x y=q03 x y∧(↑(q03 x y).length:Int)=(↑(q03 x y).length:Int)
    ∧ True)∧True∧True∧True∧True∧(x=x∧y=y∧q03 x y=q03 x y∧true=true∧True∧True)∧True∧True∧True∧True)∧∀ (p:Nat),p≤(q03 x y).length ∧
    (List.take p (q03 x y)).any (q17 y)=false→bif decide ((p:Int)<(↑(q03 x y).length:Int)) then ((0:Int)≤(p:Int)∧(p:Int)<(↑(q03 x y).length:Int)) ∧
    (q1h y∧q28 ((q03 x y).getD (p:Int).toNat ((0:Int),(0:Int))))∧bif q17 y ((q03 x y).getD (p:Int).toNat ((0:Int),(0:Int))) then false=q2t x y else
    ((-9223372036854775808:Int)≤(p:Int)+(1:Int)∧(p:Int)+(1:Int)≤(9223372036854775807:Int))∧∃ (p':Nat),(p'≤(q03 x y).length∧(List.take p' (q03 x y)).any
    (q17 y)=false)∧(q03 x y).length-p'<(q03 x y).length-p∧((p:Int)+(1:Int)=(p':Int)∧q03 x y=q03 x y∧y=y∧q03 x y=q03 x y ∧
    (↑(q03 x y).length:Int)=(↑(q03 x y).length:Int)∧True)∧True∧True∧True∧True∧(x=x∧y=y∧q03 x y=q03 x y∧true=true∧True∧True)∧True∧True
    ∧ True∧True else (q0e y=true∧q0e x=true∧x.length≤(12:Nat))∧(∃ (p':Nat),(p'≤(q03 y x).length∧(List.take p' (q03 y x)).any (q17 x)=false)∧((0 :
    Int)=(p':Int)∧q03 y x=q03 y x∧x=x∧q03 y x=q03 y x∧(↑(q03 y x).length:Int)=(↑(q03 y x).length:Int)∧True)∧True∧True∧True∧True ∧
    (x=x∧y=y∧q03 x y=q03 x y∧true=true∧true=true∧True)∧True∧True∧True∧True)∧∀ (p:Nat),p≤(q03 y x).length∧(List.take p (q03 y x)).any
    (q17 x)=false→bif decide ((p:Int)<(↑(q03 y x).length:Int)) then ((0:Int)≤(p:Int)∧(p:Int)<(↑(q03 y x).length:Int))∧(q1h x∧q28 ((q03 y
    x).getD (p:Int).toNat ((0:Int),(0:Int))))∧bif q17 x ((q03 y x).getD (p:Int).toNat ((0:Int),(0:Int))) then (!decide ((0:Int)≤(p:Int)))=q2t x y else
    ((-9223372036854775808:Int)≤(p:Int)+(1:Int)∧(p:Int)+(1:Int)≤(9223372036854775807:Int))∧∃ (p':Nat),(p'≤(q03 y x).length∧(List.take p' (q03 y x)).any
    (q17 x)=false)∧(q03 y x).length-p'<(q03 y x).length-p∧((p:Int)+(1:Int)=(p':Int)∧q03 y x=q03 y x∧x=x∧q03 y x=q03 y x ∧
    (↑(q03 y x).length:Int)=(↑(q03 y x).length:Int)∧True)∧True∧True∧True∧True∧(x=x∧y=y∧q03 x y=q03 x y∧true=true∧true=true∧True)∧True
    ∧ True∧True∧True else (!decide ((0:Int)≤(-1:Int)))=q2t x y else ((-9223372036854775808:Int)≤(p:Int)+(1:Int)∧(p:Int)+(1:Int)≤(9223372036854775807:Int))
    ∧ ∃ (p':Nat),(p'≤(q03 x y).length∧(List.take p' (q03 x y)).any (q0p y)=false)∧(q03 x y).length-p'<(q03 x y).length-p∧((p:Int)+(1:Int) =
    (p':Int)∧q03 x y=q03 x y∧y=y∧q03 x y=q03 x y∧(↑(q03 x y).length:Int)=(↑(q03 x y).length:Int)∧True)∧True∧True∧True∧True∧(x=x
    ∧ y=y∧q03 x y=q03 x y∧True∧True∧True)∧True∧True∧True∧True else false=q2t x y
     := by
  obtain ⟨h1,h2⟩:x.length≤12∧y.length≤12:=h;simp only [and_true,eq_self,and_self];have hW:q2t x y=(q0e x&&(q0e y&&(!q3r x y&&((q03 x y).any (q0p y)&&(!(q03 x y).any (q17 y)&&!(q03 y x).any (q17 x)))))):=rfl;rw [hW];refine ⟨by omega,bifP (λhx=>by rw [show q0e x=false by simpa using hx];rfl) λhx=>⟨by omega,bifP (λhy=>by rw [show q0e y=false by simpa using hy,Bool.false_and,Bool.and_false]) λhy=>?_⟩⟩
  have hx:q0e x=true:=by simpa using hx
  have hy:q0e y=true:=by simpa using hy
  have vx:=q5q hx;have vy:=q5q hy;rw [hx,hy,Bool.true_and,Bool.true_and];refine ⟨⟨⟨vx.2.1,vx.2.2⟩,vy.2.1,vy.2.2⟩,bifP (λhc=>by rw [hc];rfl) λhc=>?_⟩
  rw [hc,Bool.not_false,Bool.true_and];refine ⟨⟨rfl,rfl,h2⟩,qdo _ _ (by have:=qh0 hx hy h2;omega) (Pre:=λm=>q1h y∧q28 m) (λm hm=>⟨⟨vy.2.1,vy.2.2⟩,qdw hx hy hm⟩) (λp hp hf=>?_) λha=>?_⟩
  · rw [qgp _ z0 _ p hp hf,Bool.true_and]
    refine qdo _ _ (by have:=qh0 hx hy h2;omega) (Pre:=λm=>q1h y∧q28 m) (λm hm=>⟨⟨vy.2.1,vy.2.2⟩,qdw hx hy hm⟩) (λq hq hg=>?_) λhb=>?_
    · rw [qgp _ z0 _ q hq hg];rfl
    · rw [hb,Bool.not_false,Bool.true_and]
      refine ⟨⟨rfl,rfl,h1⟩,qdo _ _ (by have:=qh0 hy hx h1;omega) (Pre:=λm=>q1h x∧q28 m) (λm hm=>⟨⟨vx.2.1,vx.2.2⟩,qdw hy hx hm⟩) (λq hq hg=>?_) λhb=>?_⟩
      · rw [qgp _ z0 _ q hq hg,decide_eq_true (show (0:Int)≤(q:Int) by omega)]
      · rw [hb];rfl
  · rw [ha,Bool.false_and]
set_option maxRecDepth 100000 in
theorem wh_vc (r:List P2) (x y:Int) (h:cWhere.pre (r,(x,y))) :
    True∧True∧r.length≤(1000:Nat)∧bif !q0e r then (-1:Int)=q0i r (x,y) else True∧bif !onB (x,y) then (-1:Int)=q0i r (x,y) else (q1h r∧q28
    (IntKind.i64.wrap ((2:Int)*x),IntKind.i64.wrap ((2:Int)*y)))∧bif q0p r (IntKind.i64.wrap ((2:Int)*x),IntKind.i64.wrap ((2:Int)*y)) then (-1:Int)=q0i r (x,y)
    else (q1h r∧q28 (IntKind.i64.wrap ((2:Int)*x),IntKind.i64.wrap ((2:Int)*y)))∧bif q17 r (IntKind.i64.wrap ((2:Int)*x),IntKind.i64.wrap ((2:Int)*y)) then (1 :
    Int)=q0i r (x,y) else (0:Int)=q0i r (x,y)
     := by
  have h1:r.length≤1000:=h;have hW:q0i r (x,y)=if !q0e r||(!onB (x,y)||q0p r (dbl (x,y))) then -1 else if q17 r (dbl (x,y)) then 1 else 0:=rfl
  have hd:dbl (x,y)=(2*x,2*y):=rfl;refine ⟨trivial,trivial,by omega,bifP (λhr=>by rw [hW,hr];rfl) λhr=>?_⟩
  have hv:q0e r=true:=by simpa using hr
  have v:=q5q hv;rw [hW,hv];refine ⟨trivial,bifP (λh=>by rw [h,Bool.true_or];rfl) λho=>?_⟩
  have h2:onB (x,y)=true:=by simpa using ho
  have o:=q1i h2;have hh:=dbl_half h2;dsimp only at o;have w1:IntKind.i64.wrap (2*x)=2*x:=q4h (by unfold q83;omega)
  have w2:IntKind.i64.wrap (2*y)=2*y:=q4h (by unfold q83;omega)
  rw [hd] at hh;rw [w1,w2,hd,h2];exact ⟨⟨⟨v.2.1,v.2.2⟩,hh⟩,bifP (λho=>by rw [ho];rfl) λho=>⟨⟨⟨v.2.1,v.2.2⟩,hh⟩,bifP (λhi=>by rw [ho,hi];rfl) λhi=>by rw [ho,hi];rfl⟩⟩
set_option maxRecDepth 100000 in
theorem off_holds:cOff.Holds Tryz.prog:=by
 refine q0y (cons:=[cOn]) Tryz.func47 (by kernel_rfl) (by kernel_rfl) mixed (by kernel_rfl) (all_cons qec all_nil) (λ_=>[]) λp hp=>?_
 obtain ⟨x,y⟩:=p;refine cast ?_ (off_vc x y)
 kernel_rfl
theorem qha:q0f Tryz.prog qe9:=q0f.more Tryz.func80 (by kernel_rfl) (by kernel_rfl) (q0f.more Tryz.func112 (by kernel_rfl) (by kernel_rfl) q0f.nil)
theorem kitTw_ok:kitTw.Ok Tryz.prog where
 cons:=all_nil
 ns:=all_nil
 os:=all_nil
 fcs:=all_nil
 rcs:=all_nil
 inls:=qha
set_option maxRecDepth 100000000 in
theorem twice_holds:cTwice.Holds Tryz.prog:=by
 refine q5i (T:=kitTw) (λp=>anTw p) Tryz.func56 (by kernel_rfl) (by kernel_rfl) mixed (by kernel_rfl) kitTw_ok (λ_=>[]) λp hp=>?_
 refine cast ?_ (tw_vc p hp)
 kernel_rfl
set_option maxRecDepth 100000 in
theorem simple_holds:cSimple.Holds Tryz.prog:=by
 refine q0y (cons:=[cTurn,cCross]) Tryz.func57 (by kernel_rfl) (by kernel_rfl) mixed (by kernel_rfl) (all_cons turn_holds (all_cons qi2 all_nil)) (λp=>anSi p) λp hp=>?_
 refine cast ?_ (si_vc p hp)
 kernel_rfl
theorem fcon_of {P:Program} {f:FuncId} {args res:List CK} {pre:Pays args→Prop} {F:Pays args→Pays res} (h:(Con.of f args res pre F).Holds P) (hf:FnOk P f) (hres:∀ p:Pays args,∀ (κ:Cx) (w:World) (v:Value),(q15 res (F p)).Rep κ w v→True) :
  ({ f:=f,args:=args,fa:=.no,res:=res,pre:=λp _=>pre p,F:=λp _=>F p }:FCon).Holds P:=by
 refine ⟨hf,λp b vs fvs w S hS hp hvs hfa=>?_⟩
 have hfa:fvs=[]:=hfa;subst hfa;rw [List.append_nil];refine Calls.mono (h.2 p vs w S hS hp hvs) ?_;rintro e w' ⟨r,v,rfl,hr,hv,hbl⟩;have hr:r=F p:=hr;subst hr;exact ⟨hbl,v,rfl,hv⟩
theorem fOff_holds:fOff.Holds Tryz.prog:=fcon_of off_holds ⟨_,Tryz.func47,by kernel_rfl,by kernel_rfl⟩ (λ_ _ _ _ _=>trivial)
theorem kitVa_ok:kitVa.Ok Tryz.prog where
 cons:=all_cons twice_holds (all_cons simple_holds all_nil)
 ns:=all_nil
 os:=all_nil
 fcs:=all_cons fOff_holds all_nil
 rcs:=all_nil
 inls:=q0f.more Tryz.func55 (by kernel_rfl) (by kernel_rfl) (q0f.more Tryz.func79 (by kernel_rfl) (by kernel_rfl) q0f.nil)
set_option maxRecDepth 100000000 in
theorem qe2:cRing.Holds Tryz.prog:=by
 refine q5i (T:=kitVa) (λp=>anVa p) Tryz.func35 (by kernel_rfl) (by kernel_rfl) mixed (by kernel_rfl) kitVa_ok (λ_=>[]) λp hp=>?_
 refine cast ?_ (va_vc p hp)
 kernel_rfl
set_option maxHeartbeats 4000000 in
set_option maxRecDepth 100000000 in
theorem qjn:cHalf.Holds Tryz.prog:=by
 refine q5i (T:=kitTw) (λp=>anHa p.1 p.2) Tryz.func70 (by kernel_rfl) (by kernel_rfl) mixed (by kernel_rfl) kitTw_ok (λ_=>anHaB) λp hp=>?_
 obtain ⟨r,x,y⟩:=p;refine cast ?_ (ha_vc r x y hp)
 kernel_rfl
set_option maxRecDepth 100000 in
theorem qfh:cInside.Holds Tryz.prog:=by
 refine q0y (cons:=[cHalf]) Tryz.func49 (by kernel_rfl) (by kernel_rfl) mixed (by kernel_rfl) (all_cons qjn all_nil) (λ_=>[]) λp hp=>?_
 obtain ⟨r,x,y⟩:=p;refine cast ?_ (in_vc r x y hp)
 kernel_rfl
set_option maxRecDepth 100000 in
theorem qer:qiv.Holds Tryz.prog:=by
 refine q0y (cons:=[cHalf]) Tryz.func48 (by kernel_rfl) (by kernel_rfl) mixed (by kernel_rfl) (all_cons qjn all_nil) (λ_=>[]) λp hp=>?_
 obtain ⟨r,x,y⟩:=p;refine cast ?_ (out_vc r x y hp)
 kernel_rfl
theorem kitCx_ok:kitCx.Ok Tryz.prog where
 cons:=all_cons qi2 all_nil
 ns:=all_nil
 os:=all_nil
 fcs:=all_nil
 rcs:=all_nil
 inls:=qha
set_option maxRecDepth 100000000 in
theorem qkd:qiy.Holds Tryz.prog:=by
 refine q5i (T:=kitCx) (λp=>anCx p.1 p.2) Tryz.func65 (by kernel_rfl) (by kernel_rfl) mixed (by kernel_rfl) kitCx_ok (λ_=>[]) λp hp=>?_
 obtain ⟨x,y⟩:=p;refine cast ?_ (cx_vc x y hp)
 kernel_rfl
theorem len_holds:cLen.Holds Tryz.prog:=by
 refine ⟨⟨⟨_,Tryz.func73,by kernel_rfl,by kernel_rfl⟩,λF' hF p r hr=>by injection hF with hF;subst hF;exact hr⟩,λn vs w S hS hp hvs=>?_⟩
 obtain ⟨v,rfl,hv⟩:=qin hvs;obtain ⟨n,rfl⟩:∃ q:Int,q=n:=⟨n,rfl⟩;obtain rfl:v=.int .u64 n:=hv;have hp:0≤n∧n<18446744073709551616:=hp;refine (Tryz.bits_Len n w hp.1 (by omega)).mono ?_
 rintro e w' ⟨rfl,rfl⟩;exact ⟨_,_,rfl,rfl,rfl,Below.refl _ _⟩
theorem kitMi_ok:kitMi.Ok Tryz.prog where
 cons:=all_cons bet_holds (all_cons dist_holds (all_cons len_holds all_nil))
 ns:=all_nil
 os:=all_nil
 fcs:=all_nil
 rcs:=all_nil
 inls:=q0f.more Tryz.func80 (by kernel_rfl) (by kernel_rfl) (q0f.more Tryz.func112 (by kernel_rfl) (by kernel_rfl) (q0f.more Tryz.func89 (by kernel_rfl) (by kernel_rfl) (q0f.more Tryz.func88 (by kernel_rfl) (by kernel_rfl)
  (q0f.more Tryz.func119 (by kernel_rfl) (by kernel_rfl) (q0f.more Tryz.func137 (by kernel_rfl) (by kernel_rfl) (q0f.more Tryz.func91 (by kernel_rfl) (by kernel_rfl) q0f.nil))))))
set_option maxHeartbeats 4000000 in
set_option maxRecDepth 100000000 in
theorem qkc:qij.Holds Tryz.prog:=by
 refine q5i (T:=kitMi) (λp=>anMiI p.1 p.2) Tryz.func66 (by kernel_rfl) (by kernel_rfl) mixed (by kernel_rfl) kitMi_ok (λp=>anMi p.2) λp hp=>?_
 obtain ⟨x,y⟩:=p;refine cast ?_ (mi_vc x y hp)
 kernel_rfl
theorem qka:fOutside.Holds Tryz.prog:=fcon_of qer ⟨_,Tryz.func48,by kernel_rfl,by kernel_rfl⟩ (λ_ _ _ _ _=>trivial)
theorem qkb:fInside.Holds Tryz.prog:=fcon_of qfh ⟨_,Tryz.func49,by kernel_rfl,by kernel_rfl⟩ (λ_ _ _ _ _=>trivial)
theorem kitWi_ok:kitWi.Ok Tryz.prog where
 cons:=all_cons qe2 (all_cons qkd (all_cons qkc all_nil))
 ns:=all_nil
 os:=all_nil
 fcs:=all_cons qka (all_cons qkb all_nil)
 rcs:=all_nil
 inls:=q0f.more Tryz.func67 (by kernel_rfl) (by kernel_rfl) (q0f.more Tryz.func92 (by kernel_rfl) (by kernel_rfl) q0f.nil)
set_option maxRecDepth 100000000 in
theorem within_holds:cWithin.Holds Tryz.prog:=by
 refine q5i (T:=kitWi) (λp=>anWi p.1 p.2) Tryz.func45 (by kernel_rfl) (by kernel_rfl) mixed (by kernel_rfl) kitWi_ok (λ_=>[]) λp hp=>?_
 obtain ⟨x,y⟩:=p;refine cast ?_ (wi_vc x y hp)
 kernel_rfl
set_option maxRecDepth 100000000 in
theorem apartP_holds:cApartP.Holds Tryz.prog:=by
 refine q5i (T:=kitWi) (λp=>anAp p.1 p.2) Tryz.func41 (by kernel_rfl) (by kernel_rfl) mixed (by kernel_rfl) kitWi_ok (λ_=>[]) λp hp=>?_
 obtain ⟨x,y⟩:=p;refine cast ?_ (ap_vc x y hp)
 kernel_rfl
set_option maxRecDepth 100000 in
theorem qcd:cWhere.Holds Tryz.prog:=by
 refine q0y (cons:=[cRing,cOff,qiv,cInside]) Tryz.func25 (by kernel_rfl) (by kernel_rfl) mixed (by kernel_rfl) (all_cons qe2 (all_cons off_holds (all_cons qer (all_cons qfh all_nil)))) (λ_=>[]) λp hp=>?_
 obtain ⟨r,x,y⟩:=p;refine cast ?_ (wh_vc r x y hp)
 kernel_rfl
theorem qeu:qib.Holds Tryz.prog:=⟨qcd.1,λp vs w S hS hp hvs=>qcd.2 p vs w S hS hp.1 hvs⟩
end Go.Proofs.YtnpkpehlncnkgaaGreatDoor

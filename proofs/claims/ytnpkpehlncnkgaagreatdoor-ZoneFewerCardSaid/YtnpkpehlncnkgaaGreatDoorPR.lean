/-
  Several texts in one: ZyAll, ZyOne, ZyNes, ZyOrd, ZyFew, ZnAp, ZyApt, Zy.
-/
import Derived.Test.YtnpkpehlncnkgaaGreatDoorPQ
set_option linter.unusedVariables false
namespace Go.Proofs.YtnpkpehlncnkgaaGreatDoor
open Go.RowKit R Geo.Zn Zl
abbrev qfl (l:List Ar) (n:Int) (p:Nat) (p':Nat) (x:Int) (y:Int):Prop :=
 ((↑(List.filter (isZ n (x,y)) (List.take p l)).length:Int)=(↑(List.filter (isZ n (x,y)) (List.take p' l)).length:Int)∧(p:Int)+1=(p':Int)∧l=l∧n=n∧True∧true=true∧(allZ Lx.q02 l n (x,y)).1=(allZ Lx.q02 l n (x,y)).1∧(allZ Lx.q02 l n (x,y)).2=(allZ Lx.q02 l n (x,y)).2∧True)
set_option maxRecDepth 100000 in
theorem zyall_vc (l:List Ar) (n x y:Int) (h:cLAll.pre (l,n,x,y)) :
  True∧True∧bif !q3x l (6:Int) then true=true else FewZ l∧bif (allZ Lx.q02 l n (x,y)).2 != (0:Int) then bif (allZ Lx.q02 l n (x,y)).2==(1:Int) then bif (↑(allZ Lx.q02 l n (x,y)).1.length:Int)==(0:Int) then FewZ l∧bif !q0b Lx.q02 l then true=true else True∧bif !q12 n then true=true else True∧(!onB (x,y))=true else false=true else false=true else (∃ (p':Nat),p'≤l.length∧((0:Int)=(↑(List.filter (isZ n (x,y)) (List.take p' l)).length:Int)∧(0:Int)=(p':Int)∧l=l∧n=n∧True∧true=true∧(allZ Lx.q02 l n (x,y)).1=(allZ Lx.q02 l n (x,y)).1∧(allZ Lx.q02 l n (x,y)).2=(allZ Lx.q02 l n (x,y)).2∧True)∧((x=x∧y=y∧True)∧True)∧True∧True∧True∧True∧True∧True∧True∧True)∧∀ (p:Nat),p≤l.length→bif decide ((p:Int)<(l.length:Int)) then (0≤(p:Int)∧(p:Int)<(l.length:Int))∧bif (l.getD (p:Int).toNat ([],(0:Int),[])).2.1==n then (0≤(p:Int)∧(p:Int)<(l.length:Int))∧((l.getD (p:Int).toNat ([],(0:Int),[])).2.2.length≤(1000:Nat)∧onB (x,y)=true)∧bif decide ((0:Int)≤q0i (l.getD (p:Int).toNat ([],(0:Int),[])).2.2 (x,y)) then (zFit ((↑(List.filter (isZ n (x,y)) (List.take p l)).length:Int)+1))∧(0≤(p:Int)∧(p:Int)<(l.length:Int))∧(allZ Lx.q02 l n (x,y)).1.length≤(1000000:Nat)∧bif !(allZ Lx.q02 l n (x,y)).1.contains (l.getD (p:Int).toNat ([],(0:Int),[])).1==decide ((0:Int)≤q0i (l.getD (p:Int).toNat ([],(0:Int),[])).2.2 (x,y)) then false=true else (zFit ((p:Int)+1))∧∃ (p':Nat),p'≤l.length∧l.length-p'<l.length-p∧((↑(List.filter (isZ n (x,y)) (List.take p l)).length:Int)+1=(↑(List.filter (isZ n (x,y)) (List.take p' l)).length:Int)∧(p:Int)+1=(p':Int)∧l=l∧n=n∧True∧true=true∧(allZ Lx.q02 l n (x,y)).1=(allZ Lx.q02 l n (x,y)).1∧(allZ Lx.q02 l n (x,y)).2=(allZ Lx.q02 l n (x,y)).2∧True)∧((x=x∧y=y∧True)∧True)∧True∧True∧True∧True∧True∧True∧True∧True else (0≤(p:Int)∧(p:Int)<(l.length:Int))∧(allZ Lx.q02 l n (x,y)).1.length≤(1000000:Nat)∧bif !(allZ Lx.q02 l n (x,y)).1.contains (l.getD (p:Int).toNat ([],(0:Int),[])).1==decide ((0:Int)≤q0i (l.getD (p:Int).toNat ([],(0:Int),[])).2.2 (x,y)) then false=true else (zFit ((p:Int)+1))∧∃ (p':Nat),p'≤l.length∧l.length-p'<l.length-p∧(qfl l n p p' x y)∧((x=x∧y=y∧True)∧True)∧True∧True∧True∧True∧True∧True∧True∧True else (0≤(p:Int)∧(p:Int)<(l.length:Int))∧(allZ Lx.q02 l n (x,y)).1.length≤(1000000:Nat)∧bif !(allZ Lx.q02 l n (x,y)).1.contains (l.getD (p:Int).toNat ([],(0:Int),[])).1==false then false=true else (zFit ((p:Int)+1))∧∃ (p':Nat),p'≤l.length∧l.length-p'<l.length-p∧(qfl l n p p' x y)∧((x=x∧y=y∧True)∧True)∧True∧True∧True∧True∧True∧True∧True∧True else (∃ (p':Nat),(1:Nat)≤p'∧((1:Int)=(p':Int)∧l=l∧n=n∧True∧true=true∧(allZ Lx.q02 l n (x,y)).1=(allZ Lx.q02 l n (x,y)).1∧(↑(List.filter (isZ n (x,y)) (List.take p l)).length:Int)=(↑(List.filter (isZ n (x,y)) (List.take p l)).length:Int)∧True)∧((x=x∧y=y∧True)∧True)∧True∧True∧True∧True∧True∧True∧True∧True)∧∀ (p_1:Nat),(1:Nat)≤p_1→bif decide ((p_1:Int)<(↑(allZ Lx.q02 l n (x,y)).1.length:Int)) then (zFit ((p_1:Int)-1))∧(0≤(p_1:Int)-1∧(p_1:Int)-1<(↑(allZ Lx.q02 l n (x,y)).1.length:Int))∧(0≤(p_1:Int)∧(p_1:Int)<(↑(allZ Lx.q02 l n (x,y)).1.length:Int))∧bif !Op.bytesLess ((allZ Lx.q02 l n (x,y)).1.getD ((p_1:Int)-1).toNat []) ((allZ Lx.q02 l n (x,y)).1.getD (p_1:Int).toNat []) then false=true else (zFit ((p_1:Int)+1))∧∃ (p':Nat),(1:Nat)≤p'∧(idsZ l n (x,y)).length-p'<(idsZ l n (x,y)).length-p_1∧((p_1:Int)+1=(p':Int)∧l=l∧n=n∧True∧true=true∧(allZ Lx.q02 l n (x,y)).1=(allZ Lx.q02 l n (x,y)).1∧(↑(List.filter (isZ n (x,y)) (List.take p l)).length:Int)=(↑(List.filter (isZ n (x,y)) (List.take p l)).length:Int)∧True)∧((x=x∧y=y∧True)∧True)∧True∧True∧True∧True∧True∧True∧True∧True else bif (↑(List.filter (isZ n (x,y)) (List.take p l)).length:Int)==(↑(allZ Lx.q02 l n (x,y)).1.length:Int) then FewZ l∧bif q0b Lx.q02 l then True∧bif q12 n then True∧onB (x,y)=true else false=true else false=true else false=true:=by
 delta qfl zFit
 simp only [and_true,true_and,eq_self,and_self];refine bifP (λ_=>trivial) λhf=>?_
 have hF:FewZ l:=qad.1 (cast (Bool.not_eq_false' _) hf);have hl6:=hF.1;cases hc:q3t l n (x,y)
 ·rw [qat hc]
  refine ⟨hF,⟨hF,bifP (λ_=>trivial) λh1=>bifP (λ_=>trivial) λh2=>?_⟩⟩
  have h1:q0b Lx.q02 l=true:=cast (Bool.not_eq_false' _) h1;have h2:q12 n=true:=cast (Bool.not_eq_false' _) h2;cases h3:onB (x,y)
  ·rfl
  ·rw [qb0.2 ⟨h1,h2,h3⟩] at hc;cases hc
 rw [q6o hc];obtain ⟨h1,h2,h3⟩:=qb0.1 hc;have hle:=ids_le l n (x,y);refine ⟨hF,⟨0,Nat.zero_le _,rfl,rfl⟩,λk hk=>bifP (λhb=>?_) λhb=>?_⟩
 ·have hkl:k<l.length:=by have:=of_decide_eq_true hb;omega
  have hm:=q1v l ar0 k hkl;have hs:=has_ids h1 n (x,y) hm;have hcs:=cnt_succ l n (x,y) hkl;have hcl:=cnt_le l n (x,y) k;have hsz:=(hF.2 _ hm).2;unfold isZ at hs;simp only [Int.toNat_natCast];dsimp only [ar0] at hs hcs hsz hm;rw [hs];refine ⟨by omega,bifP (λc1=>⟨by omega,⟨by omega,h3⟩,bifP (λc2=>⟨by omega,by omega,by omega,bifP (λc3=>?_) λc3=>⟨by omega,k+1,by omega,by omega,?_,by omega⟩⟩) λc2=>⟨by omega,by omega,bifP (λc3=>?_) λc3=>⟨by omega,k+1,by omega,by omega,?_,by omega⟩⟩⟩) λc1=>⟨by omega,by omega,bifP (λc3=>?_) λc3=>⟨by omega,k+1,by omega,by omega,?_,by omega⟩⟩⟩
  ·rw [c1,c2] at c3;cases c3
  ·have:isZ n (x,y) (l.getD k ([],0,[]))=true:=by unfold isZ;rw [c1,c2];rfl
   rw [hcs,this];rfl
  ·rw [c1,c2] at c3;cases c3
  ·have:isZ n (x,y) (l.getD k ([],0,[]))=false:=by unfold isZ;rw [c2,Bool.and_false]
   rw [hcs,this];rfl
  ·rw [c1] at c3;cases c3
  ·have:isZ n (x,y) (l.getD k ([],0,[]))=false:=by unfold isZ;rw [c1];rfl
   rw [hcs,this];rfl
 ·have:k=l.length:=by have:=of_decide_eq_false hb;omega
  subst this;rw [List.take_length,cnt_ids];refine ⟨⟨1,Nat.le_refl _,rfl⟩,λk2 hk2=>bifP (λhb2=>?_) λhb2=>bifP (λ_=>⟨hF,bifP (λ_=>bifP (λ_=>h3) λe=>by rw [h2] at e;cases e) λe=>by rw [h1] at e;cases e⟩) λe=>absurd e (by simp)⟩
  have hlt:k2<(idsZ l n (x,y)).length:=by have:=of_decide_eq_true hb2;dsimp only at this;omega
  have hlt':=ids_less h1 n (x,y) hk2 hlt;have ek:((k2:Int)-1).toNat=k2-1:=by omega
  simp only [Int.toNat_natCast];rw [ek,hlt'];exact ⟨by omega,by omega,by omega,⟨by omega,k2+1,by omega,by omega,by omega⟩⟩
set_option maxRecDepth 100000 in
theorem zyone_vc (l:List Ar) (n x y:Int) (h:cLOne.pre (l,n,x,y)) :
    True∧True∧bif !q3x l (6:Int) then true=true else FewZ l∧FewZ l∧bif (allZ Lx.q02 l n (x,y)).2 != (0:Int) then bif (oneZ Lx.q02 l n (x,y)).2==(allZ Lx.q02 l n (x,
    y)).2 then ((oneZ Lx.q02 l n (x,y)).1==[])=true else false=true else (∃ (p':Nat),p'≤l.length∧(false=inTo l n (x,y) p'∧(0:Int)=(p':Int)∧l=l∧n=n∧True ∧
    true=true∧(allZ Lx.q02 l n (x,y)).1=(allZ Lx.q02 l n (x,y)).1∧(allZ Lx.q02 l n (x,y)).2=(allZ Lx.q02 l n (x,y)).2∧(oneZ Lx.q02 l n (x,y)).1=(oneZ Lx.q02 l n
    (x,y)).1∧(oneZ Lx.q02 l n (x,y)).2=(oneZ Lx.q02 l n (x,y)).2∧True)∧((x=x∧y=y∧True)∧True)∧True∧True∧True∧True∧True∧True∧True∧True)∧∀ (p:Nat),p ≤
    l.length→bif decide ((p:Int)<(l.length:Int)) then bif inTo l n (x,y) p then ((-9223372036854775808:Int)≤(p:Int)+(1:Int)∧(p:Int)+(1:Int)≤(9223372036854775807
    : Int))∧∃ (p':Nat),p'≤l.length∧l.length-p'<l.length-p∧(true=inTo l n (x,y) p'∧(p:Int)+(1:Int)=(p':Int)∧l=l∧n=n∧True∧true=true∧(allZ Lx.q02
    l n (x,y)).1=(allZ Lx.q02 l n (x,y)).1∧(allZ Lx.q02 l n (x,y)).2=(allZ Lx.q02 l n (x,y)).2∧(oneZ Lx.q02 l n (x,y)).1=(oneZ Lx.q02 l n (x,y)).1∧(oneZ Lx.q02 l n
    (x,y)).2=(oneZ Lx.q02 l n (x,y)).2∧True)∧((x=x∧y=y∧True)∧True)∧True∧True∧True∧True∧True∧True∧True∧True else ((0:Int)≤(p:Int)∧(p:Int) <
    (l.length:Int))∧bif (l.getD (p:Int).toNat ([],(0:Int),[])).2.1==n then ((0:Int)≤(p:Int)∧(p:Int)<(l.length:Int))∧((l.getD (p:Int).toNat ([],(0:Int),
    [])).2.2.length≤(1000:Nat)∧onB (x,y)=true)∧((-9223372036854775808:Int)≤(p:Int)+(1:Int)∧(p:Int)+(1:Int)≤(9223372036854775807:Int))∧∃ (p':Nat),p' ≤
    l.length∧l.length-p'<l.length-p∧((q0i (l.getD (p:Int).toNat ([],(0:Int),[])).2.2 (x,y)==(1:Int))=inTo l n (x,y) p'∧(p:Int)+(1:Int)=(p':Int)∧l=l
    ∧ n=n∧True∧true=true∧(allZ Lx.q02 l n (x,y)).1=(allZ Lx.q02 l n (x,y)).1∧(allZ Lx.q02 l n (x,y)).2=(allZ Lx.q02 l n (x,y)).2∧(oneZ Lx.q02 l n (x,y)).1 =
    (oneZ Lx.q02 l n (x,y)).1∧(oneZ Lx.q02 l n (x,y)).2=(oneZ Lx.q02 l n (x,y)).2∧True)∧((x=x∧y=y∧True)∧True)∧True∧True∧True∧True∧True∧True∧True∧True
    else ((-9223372036854775808:Int)≤(p:Int)+(1:Int)∧(p:Int)+(1:Int)≤(9223372036854775807:Int))∧∃ (p':Nat),p'≤l.length∧l.length-p'<l.length-p∧(false =
    inTo l n (x,y) p'∧(p:Int)+(1:Int)=(p':Int)∧l=l∧n=n∧True∧true=true∧(allZ Lx.q02 l n (x,y)).1=(allZ Lx.q02 l n (x,y)).1∧(allZ Lx.q02 l n (x,y)).2 =
    (allZ Lx.q02 l n (x,y)).2∧(oneZ Lx.q02 l n (x,y)).1=(oneZ Lx.q02 l n (x,y)).1∧(oneZ Lx.q02 l n (x,y)).2=(oneZ Lx.q02 l n (x,y)).2∧True)∧((x=x∧y=y∧True) ∧
    True)∧True∧True∧True∧True∧True∧True∧True∧True else bif (↑(allZ Lx.q02 l n (x,y)).1.length:Int)==(0:Int) then bif (oneZ Lx.q02 l n (x,y)).2==(10:Int) then
    ((oneZ Lx.q02 l n (x,y)).1==[])=true else false=true else bif decide ((1:Int)<(↑(allZ Lx.q02 l n (x,y)).1.length:Int)) then bif inTo l n (x,y) p then bif (oneZ Lx.q02 l
    n (x,y)).2==(8:Int) then ((oneZ Lx.q02 l n (x,y)).1==[])=true else false=true else bif (oneZ Lx.q02 l n (x,y)).2==(0:Int) then ((0:Int)≤(0:Int)∧(0:Int) <
    (↑(allZ Lx.q02 l n (x,y)).1.length:Int))∧((oneZ Lx.q02 l n (x,y)).1==(allZ Lx.q02 l n (x,y)).1.getD (Int.toNat (0:Int)) [])=true else false=true else bif (oneZ Lx.q02
    l n (x,y)).2==(0:Int) then ((0:Int)≤(0:Int)∧(0:Int)<(↑(allZ Lx.q02 l n (x,y)).1.length:Int))∧((oneZ Lx.q02 l n (x,y)).1==(allZ Lx.q02 l n (x,y)).1.getD
    (Int.toNat (0:Int)) [])=true else false=true
     := by
  simp only [and_true,true_and,eq_self,and_self];refine bifP (λ_=>trivial) λhf=>?_
  have hF:FewZ l:=qad.1 (cast (Bool.not_eq_false' _) hf);have hl6:=hF.1;cases hc:q3t l n (x,y)
  · rw [qat hc,one_none hc]
    exact ⟨hF,hF,rfl⟩
  rw [q6o hc,one_some hc];obtain ⟨h1,h2,h3⟩:=qb0.1 hc;refine ⟨hF,hF,⟨0,Nat.zero_le _,rfl,rfl⟩,λk hk=>bifP (λhb=>?_) λhb=>?_⟩
  · have hkl:k<l.length:=by have:=of_decide_eq_true hb;omega
    have hm:=q1v l ar0 k hkl;have hsz:=(hF.2 _ hm).2;have e2:=in_succ l n (x,y) hkl;simp only [Int.toNat_natCast];dsimp only [ar0] at e2 hsz hm;refine bifP (λc1=>⟨by omega,k+1,by omega,by omega,?_,by omega⟩) λc1=>⟨by omega,bifP (λc2=>⟨by omega,⟨by omega,h3⟩,by omega,k+1,by omega,by omega,?_,by omega⟩) λc2=>⟨by omega,k+1,by omega,by omega,?_,by omega⟩⟩
    · rw [e2,c1];rfl
    · rw [e2,c1,c2,where_pos];rfl
    · rw [e2,c1,c2];rfl
  · have:k=l.length:=by have:=of_decide_eq_false hb;omega
    subst this;have hin:inTo l n (x,y) l.length=inZ l n (x,y):=by unfold inTo inZ;rw [List.take_length]
    rw [hin];generalize idsZ l n (x,y)=ids;generalize inZ l n (x,y)=b
    match ids,b with
    | [],b=>rfl
    | [i],b =>
      refine bifP (λh=>absurd h (by simp)) λ_=>bifP (λh=>absurd h (by simp)) λ_=>?_
      cases b <;> exact ⟨by simp,beq_self_eq_true _⟩
    | i::j::r,true =>
      refine bifP (λh=>absurd (beq_iff_eq.1 h) (by simp only [List.length_cons];omega)) λ_=>bifP (λ_=>rfl) λh=>absurd (of_decide_eq_false h) (by simp only [List.length_cons];omega)
    | i::j::r,false =>
      refine bifP (λh=>absurd (beq_iff_eq.1 h) (by simp only [List.length_cons];omega)) λ_=>bifP (λ_=>⟨by simp only [List.length_cons];omega,beq_self_eq_true _⟩) λh=>absurd (of_decide_eq_false h) (by simp only [List.length_cons];omega)
set_option maxRecDepth 100000 in
theorem zynes_vc (l:List Ar) (a b c x y:Int) (h:cLNes.pre (l,a,b,c,x,y)) :
    True∧True∧bif !q3x l (6:Int) then true=true else FewZ l∧FewZ l∧bif q0b Lx.q02 l then True∧bif !q0g Lx.q02 l a a==q12 a then false=true else FewZ l∧bif
    !q0g Lx.q02 l a b then true=true else FewZ l∧FewZ l∧True∧bif onB (x,y) then bif (allZ Lx.q02 l a (x,y)).2 != (0:Int) then false=true else bif (allZ Lx.q02 l b (x,
    y)).2 != (0:Int) then false=true else bif decide ((0:Int)<(↑(allZ Lx.q02 l a (x,y)).1.length:Int)) then bif (↑(allZ Lx.q02 l b (x,y)).1.length:Int)==(0:Int) then false
    = true else FewZ l∧bif !q0g Lx.q02 l b c then true=true else FewZ l∧q0g Lx.q02 l a c=true else FewZ l∧bif !q0g Lx.q02 l b c then true=true else FewZ l∧q0g
    Lx.q02 l a c=true else FewZ l∧bif !q0g Lx.q02 l b c then true=true else FewZ l∧q0g Lx.q02 l a c=true else bif !q0g Lx.q02 l a a==false then false=true else
    FewZ l∧bif !q0g Lx.q02 l a b then true=true else FewZ l∧FewZ l∧True∧bif onB (x,y) then bif (allZ Lx.q02 l a (x,y)).2 != (0:Int) then false=true else bif (allZ
    Lx.q02 l b (x,y)).2 != (0:Int) then false=true else bif decide ((0:Int)<(↑(allZ Lx.q02 l a (x,y)).1.length:Int)) then bif (↑(allZ Lx.q02 l b (x,y)).1.length:Int)==(0 :
    Int) then false=true else FewZ l∧bif !q0g Lx.q02 l b c then true=true else FewZ l∧q0g Lx.q02 l a c=true else FewZ l∧bif !q0g Lx.q02 l b c then true=true else
    FewZ l∧q0g Lx.q02 l a c=true else FewZ l∧bif !q0g Lx.q02 l b c then true=true else FewZ l∧q0g Lx.q02 l a c=true
     := by
  simp only [true_and,eq_self];refine bifP (λ_=>trivial) λhf=>?_
  have hF:FewZ l:=qad.1 (cast (Bool.not_eq_false' _) hf);have rest:(FewZ l∧bif !q0g Lx.q02 l a b then True else FewZ l∧FewZ l∧bif onB (x,y) then bif (allZ Lx.q02 l a (x,y)).2 != (0:Int) then false=true else bif (allZ Lx.q02 l b (x,
      y)).2 != (0:Int) then false=true else bif decide ((0:Int)<(↑(allZ Lx.q02 l a (x,y)).1.length:Int)) then bif (↑(allZ Lx.q02 l b (x,y)).1.length:Int)==(0:Int) then false
      = true else FewZ l∧bif !q0g Lx.q02 l b c then True else FewZ l∧q0g Lx.q02 l a c=true else FewZ l∧bif !q0g Lx.q02 l b c then True else FewZ l∧q0g
      Lx.q02 l a c=true else FewZ l∧bif !q0g Lx.q02 l b c then True else FewZ l∧q0g Lx.q02 l a c=true):=by
    refine ⟨hF,bifP (λ_=>trivial) λhn=>?_⟩
    have hn:q0g Lx.q02 l a b=true:=cast (Bool.not_eq_false' _) hn;obtain ⟨h1,h2,h3,_⟩:=q5s.1 hn;have last:FewZ l∧bif !q0g Lx.q02 l b c then True else FewZ l∧q0g Lx.q02 l a c=true :=
      ⟨hF,bifP (λ_=>trivial) λhn2=>⟨hF,nested_trans hn (cast (Bool.not_eq_false' _) hn2)⟩⟩
    refine ⟨hF,hF,bifP (λho=>?_) λ_=>last⟩
    rw [q6o (qb0.2 ⟨h1,h2,ho⟩),q6o (qb0.2 ⟨h1,h3,ho⟩)];refine bifP (λe=>absurd e (by simp)) λ_=>bifP (λe=>absurd e (by simp)) λ_=>bifP (λhp=>bifP (λh0=>?_) λ_=>last) λ_=>last
    have hp:=of_decide_eq_true hp;have h0:=beq_iff_eq.1 h0;dsimp only at hp h0;exact absurd (nested_ids' (p:=(x,y)) hn (by omega)) (by omega)
  refine ⟨hF,hF,bifP (λhv=>bifP (λe=>?_) λ_=>rest) λhv=>bifP (λe=>?_) λ_=>rest⟩
  · rw [nested_kind hv] at e;simp at e
  · have:q0g Lx.q02 l a a=false:=by rw [qhb,hv];rfl
    rw [this] at e;cases e
set_option maxRecDepth 100000 in
theorem zyord_vc (l:List Ar) (n x y:Int) (h:cLOrd.pre (l,n,x,y)) :
    True∧True∧bif !q3x l (6:Int) then true=true else FewZ l∧bif !q0b Lx.q02 l then true=true else ((-9223372036854775808:Int)≤(l.length:Int)-(1:Int)∧(↑l.length :
    Int)-(1:Int)≤(9223372036854775807:Int))∧(∃ (p':Nat),p'≤l.length∧(True∧(l.length:Int)-(1:Int)=(p':Int)-(1:Int)∧l=l∧n=n∧True∧true=true∧True)
    ∧ ((x=x∧y=y∧True)∧True)∧(backTo l n p'=[]∧True)∧True∧True∧True∧True∧True∧True∧True)∧∀ (p:Nat),p≤l.length→bif decide ((0:Int)≤(p:Int)-(1 :
    Int)) then ((0:Int)≤(p:Int)-(1:Int)∧(p:Int)-(1:Int)<(l.length:Int))∧bif (l.getD ((p:Int)-(1:Int)).toNat ([],(0:Int),[])).2.1==n then ((0:Int)≤(↑p
    : Int)-(1:Int)∧(p:Int)-(1:Int)<(l.length:Int))∧((backTo l n p).length+[l.getD ((p:Int)-(1:Int)).toNat ([],(0:Int),[])].length)*(48:Nat) ≤
    (140737488355328:Nat)∧((-9223372036854775808:Int)≤(p:Int)-(1:Int)-(1:Int)∧(p:Int)-(1:Int)-(1:Int)≤(9223372036854775807:Int))∧∃ (p':Nat),p'≤l.length
    ∧ p'<p∧(True∧(p:Int)-(1:Int)-(1:Int)=(p':Int)-(1:Int)∧l=l∧n=n∧True∧true=true∧True)∧((x=x∧y=y∧True)∧True)∧(backTo l n p++[l.getD ((↑p
    : Int)-(1:Int)).toNat ([],(0:Int),[])]=backTo l n p'∧True)∧True∧True∧True∧True∧True∧True∧True else ((-9223372036854775808:Int)≤(p:Int)-(1:Int)-(1 :
    Int)∧(p:Int)-(1:Int)-(1:Int)≤(9223372036854775807:Int))∧∃ (p':Nat),p'≤l.length∧p'<p∧(True∧(p:Int)-(1:Int)-(1:Int)=(p':Int)-(1:Int)∧l=l
    ∧ n=n∧True∧true=true∧True)∧((x=x∧y=y∧True)∧True)∧(backTo l n p=backTo l n p'∧True)∧True∧True∧True∧True∧True∧True∧True else FewZ l∧FewZ (backTo l n
    p)∧FewZ l∧FewZ (backTo l n p)∧FewZ (backTo l n p)∧bif q0b Lx.q02 (backTo l n p) then bif (allZ Lx.q02 l n (x,y)).2==(allZ Lx.q02 (backTo l n p) n (x,y)).2 then (allZ
    Lx.q02 l n (x,y)).1.length≤(1000000:Nat)∧bif (allZ Lx.q02 l n (x,y)).1==(allZ Lx.q02 (backTo l n p) n (x,y)).1 then bif (oneZ Lx.q02 l n (x,y)).1==(oneZ Lx.q02
    (backTo l n p) n (x,y)).1 then bif (oneZ Lx.q02 l n (x,y)).2==(oneZ Lx.q02 (backTo l n p) n (x,y)).2 then FewZ l∧FewZ (backTo l n p)∧(q2f Lx.q02 l n==q2f Lx.q02
    (backTo l n p) n)=true else false=true else false=true else false=true else false=true else false=true
     := by
  simp only [and_true,true_and,eq_self,and_self];refine bifP (λ_=>trivial) λhf=>?_
  have hF:FewZ l:=qad.1 (cast (Bool.not_eq_false' _) hf);have hl6:=hF.1;refine ⟨hF,bifP (λ_=>trivial) λhv=>?_⟩
  have hv:q0b Lx.q02 l=true:=cast (Bool.not_eq_false' _) hv;refine ⟨by omega,⟨l.length,Nat.le_refl _,rfl,?_⟩,λk hk=>bifP (λhb=>?_) λhb=>?_⟩
  · unfold backTo;rw [List.drop_length];rfl
  · have hb:=of_decide_eq_true hb
    obtain ⟨j,rfl⟩:∃ j,k=j+1:=⟨k-1,by omega⟩
    have ej:(((j+1:Nat):Int)-1).toNat=j:=by omega
    have hs:=back_step l n (show j<l.length by omega)
    have hbl:=back_len l n (j+1);rw [ej];dsimp only [ar0] at hs;simp only [List.length_cons,List.length_nil];refine ⟨by omega,bifP (λc=>⟨by omega,by omega,by omega,j,by omega,by omega,by omega,?_⟩) λc=>⟨by omega,j,by omega,by omega,by omega,?_⟩⟩
    · rw [hs,c];rfl
    · rw [hs,c];exact (List.append_nil _).symm
  · obtain rfl:k=0:=by have:=of_decide_eq_false hb;omega
    have hB:=back_few hF n 0;have hbv:=back_valid hv n 0;have hlk:=look_same hv hbv (back_same l n) (x,y);have hap:=apart_same hv hbv (back_same l n);have e1:allZ Lx.q02 (backTo l n 0) n (x,y)=allZ Lx.q02 l n (x,y):=by unfold allZ;rw [hlk]
    have e2:oneZ Lx.q02 (backTo l n 0) n (x,y)=oneZ Lx.q02 l n (x,y):=by unfold oneZ;rw [hlk]
    have hle:=all_le l n (x,y);rw [e1,e2,hap,hbv,beq_self_eq_true,beq_self_eq_true,beq_self_eq_true,beq_self_eq_true,beq_self_eq_true];exact ⟨hF,hB,hF,hB,hB,by omega,hF,hB,rfl⟩
theorem idx25 {k:Int} (hk:CK.Big ckU8 k) {n:Nat} (hn:0<n):IntKind.i64.wrap k=k∧∃ j:Nat,k.tmod (n:Int)=(j:Int)∧j<n:=by
 obtain ⟨h0,h1⟩:=bounds_u8 (show (Lit.int .u8 k).wf=true from hk);refine ⟨?_,?_⟩
 ·unfold IntKind.wrap
  have e:k % (2 ^ IntKind.i64.bits:Int)=k:=Int.emod_eq_of_lt h0 (by show k<(2:Int) ^ 64;omega)
  rw [e];have h2:¬ k ≥ (2 ^ (IntKind.i64.bits-1):Int):=by
   show ¬ k ≥ (2:Int) ^ 63;omega
  simp only [decide_eq_false h2,Bool.and_false];rfl
 ·have hK0:0≤k.tmod (n:Int):=Int.tmod_nonneg _ h0
  have hK1:k.tmod (n:Int)<(n:Int):=Int.tmod_lt_of_pos _ (by omega)
  exact ⟨(k.tmod n).toNat,by omega,by omega⟩
theorem less_cond {l:List Ar} (hv:q0b Lx.q02 l=true) (j:Nat) (n:Int) (p:P2):q3t (q6g l j) n p=q3t l n p:=by
 unfold q3t;rw [hv,qaa hv]
theorem less_all {l:List Ar} (hv:q0b Lx.q02 l=true) {j:Nat} (hj:j<l.length) (n:Int) (p:P2):allZ Lx.q02 (q6g l j) n p=((allZ Lx.q02 l n p).1.filter λs=>!(s==(l.getD j ar0).1),(allZ Lx.q02 l n p).2):=by
 cases hc:q3t l n p
 ·rw [qat hc,qat (by rw [less_cond hv,hc])];rfl
 ·rw [q6o hc,q6o (by rw [less_cond hv,hc]),less_ids hv hj]
abbrev qg2 (l:List Ar) (n:Int) (p:Nat) (p':Nat) (u:Int) (x:Int) (y:Int):Prop :=
 (True∧(p:Int)+1=(p':Int)∧l=l∧n=n∧True∧true=true∧(IntKind.i64.wrap u).tmod (l.length:Int)=(IntKind.i64.wrap u).tmod (l.length:Int)∧[]++List.drop (Int.toNat (0:Int)) (List.take ((IntKind.i64.wrap u).tmod (l.length:Int)).toNat l)++List.drop ((IntKind.i64.wrap u).tmod (l.length:Int)+1).toNat (List.take (l.length:Int).toNat l)=[]++List.drop (Int.toNat (0:Int)) (List.take ((IntKind.i64.wrap u).tmod (l.length:Int)).toNat l)++List.drop ((IntKind.i64.wrap u).tmod (l.length:Int)+1).toNat (List.take (l.length:Int).toNat l)∧(allZ Lx.q02 l n (x,y)).1=(allZ Lx.q02 l n (x,y)).1∧(allZ Lx.q02 l n (x,y)).2=(allZ Lx.q02 l n (x,y)).2∧(allZ Lx.q02 ([]++List.drop (Int.toNat (0:Int)) (List.take ((IntKind.i64.wrap u).tmod (l.length:Int)).toNat l)++List.drop ((IntKind.i64.wrap u).tmod (l.length:Int)+1).toNat (List.take (l.length:Int).toNat l)) n (x,y)).1=(allZ Lx.q02 ([]++List.drop (Int.toNat (0:Int)) (List.take ((IntKind.i64.wrap u).tmod (l.length:Int)).toNat l)++List.drop ((IntKind.i64.wrap u).tmod (l.length:Int)+1).toNat (List.take (l.length:Int).toNat l)) n (x,y)).1∧(allZ Lx.q02 ([]++List.drop (Int.toNat (0:Int)) (List.take ((IntKind.i64.wrap u).tmod (l.length:Int)).toNat l)++List.drop ((IntKind.i64.wrap u).tmod (l.length:Int)+1).toNat (List.take (l.length:Int).toNat l)) n (x,y)).2=(allZ Lx.q02 ([]++List.drop (Int.toNat (0:Int)) (List.take ((IntKind.i64.wrap u).tmod (l.length:Int)).toNat l)++List.drop ((IntKind.i64.wrap u).tmod (l.length:Int)+1).toNat (List.take (l.length:Int).toNat l)) n (x,y)).2∧True)
set_option maxRecDepth 100000 in
theorem zyfew_vc (l:List Ar) (n x y u:Int) (h:cLFew.pre (l,n,(x,y),u)) :
  True∧True∧bif !q3x l (6:Int) then true=true else bif (l.length:Int)==(0:Int) then true=true else FewZ l∧bif !q0b Lx.q02 l then true=true else (l.length:Int)≠(0:Int)∧((0:Int)≤0∧(0:Int)≤(IntKind.i64.wrap u).tmod (l.length:Int)∧(IntKind.i64.wrap u).tmod (l.length:Int)≤(l.length:Int))∧(zFit ((IntKind.i64.wrap u).tmod (l.length:Int)+1))∧((0:Int)≤(IntKind.i64.wrap u).tmod (l.length:Int)+1∧(IntKind.i64.wrap u).tmod (l.length:Int)+1≤(l.length:Int)∧(l.length:Int)≤(l.length:Int))∧((([]:List Ar)).length+(List.drop (Int.toNat (0:Int)) (List.take ((IntKind.i64.wrap u).tmod (l.length:Int)).toNat l)).length)*(48:Nat)≤(140737488355328:Nat)∧(([]++List.drop (Int.toNat (0:Int)) (List.take ((IntKind.i64.wrap u).tmod (l.length:Int)).toNat l)).length+(List.drop ((IntKind.i64.wrap u).tmod (l.length:Int)+1).toNat (List.take (l.length:Int).toNat l)).length)*(48:Nat)≤(140737488355328:Nat)∧FewZ l∧FewZ ([]++List.drop (Int.toNat (0:Int)) (List.take ((IntKind.i64.wrap u).tmod (l.length:Int)).toNat l)++List.drop ((IntKind.i64.wrap u).tmod (l.length:Int)+1).toNat (List.take (l.length:Int).toNat l))∧(∃ (p':Nat),p'≤(allZ Lx.q02 l n (x,y)).1.length∧(True∧(0:Int)=(p':Int)∧l=l∧n=n∧True∧true=true∧(IntKind.i64.wrap u).tmod (l.length:Int)=(IntKind.i64.wrap u).tmod (l.length:Int)∧[]++List.drop (Int.toNat (0:Int)) (List.take ((IntKind.i64.wrap u).tmod (l.length:Int)).toNat l)++List.drop ((IntKind.i64.wrap u).tmod (l.length:Int)+1).toNat (List.take (l.length:Int).toNat l)=[]++List.drop (Int.toNat (0:Int)) (List.take ((IntKind.i64.wrap u).tmod (l.length:Int)).toNat l)++List.drop ((IntKind.i64.wrap u).tmod (l.length:Int)+1).toNat (List.take (l.length:Int).toNat l)∧(allZ Lx.q02 l n (x,y)).1=(allZ Lx.q02 l n (x,y)).1∧(allZ Lx.q02 l n (x,y)).2=(allZ Lx.q02 l n (x,y)).2∧(allZ Lx.q02 ([]++List.drop (Int.toNat (0:Int)) (List.take ((IntKind.i64.wrap u).tmod (l.length:Int)).toNat l)++List.drop ((IntKind.i64.wrap u).tmod (l.length:Int)+1).toNat (List.take (l.length:Int).toNat l)) n (x,y)).1=(allZ Lx.q02 ([]++List.drop (Int.toNat (0:Int)) (List.take ((IntKind.i64.wrap u).tmod (l.length:Int)).toNat l)++List.drop ((IntKind.i64.wrap u).tmod (l.length:Int)+1).toNat (List.take (l.length:Int).toNat l)) n (x,y)).1∧(allZ Lx.q02 ([]++List.drop (Int.toNat (0:Int)) (List.take ((IntKind.i64.wrap u).tmod (l.length:Int)).toNat l)++List.drop ((IntKind.i64.wrap u).tmod (l.length:Int)+1).toNat (List.take (l.length:Int).toNat l)) n (x,y)).2=(allZ Lx.q02 ([]++List.drop (Int.toNat (0:Int)) (List.take ((IntKind.i64.wrap u).tmod (l.length:Int)).toNat l)++List.drop ((IntKind.i64.wrap u).tmod (l.length:Int)+1).toNat (List.take (l.length:Int).toNat l)) n (x,y)).2∧True)∧((x=x∧y=y∧True)∧True)∧(List.filter (λ(s:Str)=>!s==(l.getD (u.tmod (l.length:Int)).toNat ar0).1) (List.take p' (allZ Lx.q02 l n (x,y)).1)=[]∧True)∧True∧True∧True∧True∧True∧True∧True)∧∀ (p:Nat),p≤(allZ Lx.q02 l n (x,y)).1.length→bif decide ((p:Int)<(↑(allZ Lx.q02 l n (x,y)).1.length:Int)) then (0≤(p:Int)∧(p:Int)<(↑(allZ Lx.q02 l n (x,y)).1.length:Int))∧((0:Int)≤(IntKind.i64.wrap u).tmod (l.length:Int)∧(IntKind.i64.wrap u).tmod (l.length:Int)<(l.length:Int))∧bif !(allZ Lx.q02 l n (x,y)).1.getD (p:Int).toNat []==(l.getD ((IntKind.i64.wrap u).tmod (l.length:Int)).toNat ([],(0:Int),[])).1 then (0≤(p:Int)∧(p:Int)<(↑(allZ Lx.q02 l n (x,y)).1.length:Int))∧((List.filter (λ(s:Str)=>!s==(l.getD (u.tmod (l.length:Int)).toNat ar0).1) (List.take p (allZ Lx.q02 l n (x,y)).1)).length+[(allZ Lx.q02 l n (x,y)).1.getD (p:Int).toNat []].length)*(16:Nat)≤(140737488355328:Nat)∧(zFit ((p:Int)+1))∧∃ (p':Nat),p'≤(allZ Lx.q02 l n (x,y)).1.length∧(allZ Lx.q02 l n (x,y)).1.length-p'<(allZ Lx.q02 l n (x,y)).1.length-p∧(qg2 l n p p' u x y)∧((x=x∧y=y∧True)∧True)∧(List.filter (λ(s:Str)=>!s==(l.getD (u.tmod (l.length:Int)).toNat ar0).1) (List.take p (allZ Lx.q02 l n (x,y)).1)++[(allZ Lx.q02 l n (x,y)).1.getD (p:Int).toNat []]=List.filter (λ(s:Str)=>!s==(l.getD (u.tmod (l.length:Int)).toNat ar0).1) (List.take p' (allZ Lx.q02 l n (x,y)).1)∧True)∧True∧True∧True∧True∧True∧True∧True else (zFit ((p:Int)+1))∧∃ (p':Nat),p'≤(allZ Lx.q02 l n (x,y)).1.length∧(allZ Lx.q02 l n (x,y)).1.length-p'<(allZ Lx.q02 l n (x,y)).1.length-p∧(qg2 l n p p' u x y)∧((x=x∧y=y∧True)∧True)∧(List.filter (λ(s:Str)=>!s==(l.getD (u.tmod (l.length:Int)).toNat ar0).1) (List.take p (allZ Lx.q02 l n (x,y)).1)=List.filter (λ(s:Str)=>!s==(l.getD (u.tmod (l.length:Int)).toNat ar0).1) (List.take p' (allZ Lx.q02 l n (x,y)).1)∧True)∧True∧True∧True∧True∧True∧True∧True else FewZ ([]++List.drop (Int.toNat (0:Int)) (List.take ((IntKind.i64.wrap u).tmod (l.length:Int)).toNat l)++List.drop ((IntKind.i64.wrap u).tmod (l.length:Int)+1).toNat (List.take (l.length:Int).toNat l))∧bif q0b Lx.q02 ([]++List.drop (Int.toNat (0:Int)) (List.take ((IntKind.i64.wrap u).tmod (l.length:Int)).toNat l)++List.drop ((IntKind.i64.wrap u).tmod (l.length:Int)+1).toNat (List.take (l.length:Int).toNat l)) then bif (allZ Lx.q02 l n (x,y)).2==(allZ Lx.q02 ([]++List.drop (Int.toNat (0:Int)) (List.take ((IntKind.i64.wrap u).tmod (l.length:Int)).toNat l)++List.drop ((IntKind.i64.wrap u).tmod (l.length:Int)+1).toNat (List.take (l.length:Int).toNat l)) n (x,y)).2 then (allZ Lx.q02 ([]++List.drop (Int.toNat (0:Int)) (List.take ((IntKind.i64.wrap u).tmod (l.length:Int)).toNat l)++List.drop ((IntKind.i64.wrap u).tmod (l.length:Int)+1).toNat (List.take (l.length:Int).toNat l)) n (x,y)).1.length≤(1000000:Nat)∧bif (allZ Lx.q02 ([]++List.drop (Int.toNat (0:Int)) (List.take ((IntKind.i64.wrap u).tmod (l.length:Int)).toNat l)++List.drop ((IntKind.i64.wrap u).tmod (l.length:Int)+1).toNat (List.take (l.length:Int).toNat l)) n (x,y)).1==List.filter (λ(s:Str)=>!s==(l.getD (u.tmod (l.length:Int)).toNat ar0).1) (List.take p (allZ Lx.q02 l n (x,y)).1) then FewZ l∧bif !q2f Lx.q02 l n then true=true else FewZ ([]++List.drop (Int.toNat (0:Int)) (List.take ((IntKind.i64.wrap u).tmod (l.length:Int)).toNat l)++List.drop ((IntKind.i64.wrap u).tmod (l.length:Int)+1).toNat (List.take (l.length:Int).toNat l))∧q2f Lx.q02 ([]++List.drop (Int.toNat (0:Int)) (List.take ((IntKind.i64.wrap u).tmod (l.length:Int)).toNat l)++List.drop ((IntKind.i64.wrap u).tmod (l.length:Int)+1).toNat (List.take (l.length:Int).toNat l)) n=true else false=true else false=true else false=true:=by
 delta qg2 zFit
 simp only [and_true,true_and,eq_self,and_self];refine bifP (λ_=>trivial) λhf=>bifP (λ_=>trivial) λh0=>?_
 have hF:FewZ l:=qad.1 (cast (Bool.not_eq_false' _) hf);have hl6:=hF.1;have h0:0<l.length:=by have:=beq_eq_false_iff_ne.1 h0;omega
 refine ⟨hF,bifP (λ_=>trivial) λhv=>?_⟩
 have hv:q0b Lx.q02 l=true:=cast (Bool.not_eq_false' _) hv;obtain ⟨hw,j,hj,hjl⟩:=idx25 h.2.2.2 h0;have hB:=less_few hF j;have hbv:=qaa hv j;have hle:=all_le l n (x,y);have hle2:=all_le (q6g l j) n (x,y);have hbl:=(q8o l j).length_le;have eL:[]++List.drop (Int.toNat (0:Int)) (List.take j l)++List.drop (j+1) l=q6g l j:=rfl;have ej:(((j:Nat):Int)+1).toNat=j+1:=by omega
 rw [hw,hj];simp only [Int.toNat_natCast,List.take_length,ej];simp only [eL];have e1:=less_all hv hjl n (x,y);refine ⟨by omega,by omega,by omega,by omega,?_,?_,hF,hB,⟨0,Nat.zero_le _,rfl,rfl⟩,λk hk=>bifP (λhb=>?_) λhb=>?_⟩
 ·simp only [List.length_drop,List.length_take,List.length_nil];omega
 ·simp only [List.length_append,List.length_drop,List.length_take,List.length_nil];omega
 ·have hkl:k<(allZ Lx.q02 l n (x,y)).1.length:=by have:=of_decide_eq_true hb;omega
  have et:=q1x (allZ Lx.q02 l n (x,y)).1 [] k hkl;have hfl:=List.length_filter_le (λs=>!(s==(l.getD j ar0).1)) ((allZ Lx.q02 l n (x,y)).1.take k)
  have htl:=List.length_take_le' k (allZ Lx.q02 l n (x,y)).1;simp only [List.length_cons,List.length_nil];refine ⟨by omega,by omega,bifP (λc=>⟨by omega,by omega,by omega,k+1,by omega,by omega,by omega,?_⟩) λc=>⟨by omega,k+1,by omega,by omega,by omega,?_⟩⟩
  ·rw [et,List.filter_append,List.filter_cons,if_pos c];rfl
  ·rw [et,List.filter_append,List.filter_cons,if_neg (by rw [Bool.not_eq_true];exact c)]
   exact (List.append_nil _).symm
 ·have:k=(allZ Lx.q02 l n (x,y)).1.length:=by have:=of_decide_eq_false hb;omega
  subst this;rw [List.take_length,e1,hbv];dsimp only;rw [beq_self_eq_true,beq_self_eq_true];refine ⟨hB,?_,hF,bifP (λ_=>trivial) λha=>⟨hB,less_apart j (cast (Bool.not_eq_false' _) ha)⟩⟩
  have:=List.length_filter_le (λs=>!(s==(l.getD j ar0).1)) (allZ Lx.q02 l n (x,y)).1
  omega
def cLApt:Con:=.of 6 [q2d,q0s,ckPt] [q10] (λq=>CK.Big q2d q.1∧CK.Big q0s q.2.1∧CK.Big ckPt q.2.2) (λ_=>true)
noncomputable def consApt:List Con:=[cHead,cFewZ,cOne.lent,cWhere,q6t.lent]
def isIn (n:Int) (p:P2) (a:Ar):Bool:=a.2.1==n&&q0i a.2.2 p==1
def anLApt (l:List Ar) (n:Int) (p:P2):List (Nat×Ann) :=
 [annX 0 Nat (λst k=>st.hd { live:=[0,1,5,7],sav:=[],box:=[5] } [(8,R.int .i64 ((l.take k).filter (isIn n p)).length),(9,R.int .i64 k)] [] [] [] none) (λ_ k=>k≤l.length) (λ_ k=>l.length-k)]
theorem apart_out {x y:List P2} {p:P2} (h:q2t x y=true) (hx1:q0i x p=1):¬ 0≤q0i y p:=λhw=>by
 unfold q2t at h;simp only [Bool.and_eq_true,Bool.not_eq_true'] at h;obtain ⟨h1,h2,h3,h4,h5,h6⟩:=h;have hx:=Geo.q4b h1;have hy:=Geo.q4b h2;obtain ⟨m,hm,ho⟩:=List.any_eq_true.1 h4;have hin:=(Geo.qft hx1).2.2 hx;obtain ⟨_,g2,g3⟩:=Geo.qbg.1 hw;have hnot:¬ Geo.Outside y.length (Geo.vr y) (Geo.hp (dbl p)):=λh=>by rw [(Geo.q4k hy _).2 h] at g3;cases g3
 rw [Geo.hp_dbl] at hnot;rcases hy.ring.qbo (Geo.pt p) with hz | hz
 ·obtain ⟨p',hp1,hp2⟩:=hy.ring.qfg hx.ring ((Geo.q3l hx hy).1 h3).turn hz hin.1
  exact (Geo.q9j hy hx).1 h6 p' hp1 ((hx.ring.q63 hp2 hin.1).1 hin)
 ·exact hx.ring.qfn hy.ring ((Geo.q3l hx hy).1 h3) ((Geo.q9j hx hy).1 h5) ((Geo.q9j hy hx).1 h6) ⟨Geo.hp m,(Geo.q5a hx hy _).2 ⟨m,hm,rfl⟩,(Geo.q4k hy m).1 ho⟩ hin ⟨hz,λe=>hnot ⟨hz,e⟩⟩
theorem apart_few {l:List Ar} {n:Int} (h:q2f Lx.q02 l n=true) (p:P2):(l.filter (isIn n p)).length≤1:=by
 obtain ⟨h1,_,_⟩:=q5n.1 h;have hn:((l.filter (isIn n p)).map λa=>a.1).Nodup:=(q3a.1 h1).2.1.sublist (List.filter_sublist.map _)
 have hin:∀ a∈l.filter (isIn n p),a∈l∧a.2.1=n∧q0i a.2.2 p=1:=λa ha=>by
  obtain ⟨m1,m2⟩:=List.mem_filter.1 ha;unfold isIn at m2;rw [Bool.and_eq_true,beq_iff_eq,beq_iff_eq] at m2;exact ⟨m1,m2.1,m2.2⟩
 match hf:l.filter (isIn n p) with
 | []=>exact Nat.zero_le _
 | [a]=>exact Nat.le_refl _
 | a::b::r =>
  exfalso
  rw [hf] at hn hin;obtain ⟨a1,a2,a3⟩:=hin a (List.mem_cons_self ..);obtain ⟨b1,b2,b3⟩:=hin b (List.mem_cons_of_mem _ (List.mem_cons_self ..));have e:=apart_one h a1 b1 a2 b2 a3 b3;rw [List.map_cons,List.map_cons,List.nodup_cons] at hn;exact hn.1 (by rw [e];exact List.mem_cons_self ..)
theorem apart_once {l:List Ar} {n:Int} (h:q2f Lx.q02 l n=true) (p:P2):(oneZ Lx.q02 l n p).2≠8:=by
 obtain ⟨h1,_,h3⟩:=q5n.1 h;cases hc:q3t l n p
 ·rw [one_none hc];decide
 ·rw [one_some hc]
  have hlt:=qd0 h1 n p
  match hi:idsZ l n p with
  | []=>exact (by decide:((10:Int))≠8)
  | [i]=>exact (by decide:((0:Int))≠8)
  | i::j::r =>
   cases hz:inZ l n p
   ·exact (by decide:((0:Int))≠8)
   ·exfalso
    obtain ⟨a,ha,ka,wa⟩:=in_iff.1 hz;have wa:q0i a.2.2 p=1:=beq_iff_eq.1 ((where_pos a.2.2 p).trans (decide_eq_true wa));have no:∀ s∈idsZ l n p,s=a.1:=λs hs=>by
     obtain ⟨b,hb,kb,wb,e⟩:=q6v.1 hs;rcases h3 a ha ka b hb kb with e2 | hap
     ·rw [← e,e2]
     ·exact absurd wb (apart_out hap wa)
    rw [hi] at no hlt;have e1:=no i (List.mem_cons_self ..);have e2:=no j (List.mem_cons_of_mem _ (List.mem_cons_self ..));have:=(List.pairwise_cons.1 hlt).1 j (List.mem_cons_self ..);rw [e1,e2] at this;exact List.lt_irrefl _ this
theorem isin_succ (l:List Ar) (n:Int) (p:P2) {k:Nat} (hk:k<l.length):((l.take (k+1)).filter (isIn n p)).length=((l.take k).filter (isIn n p)).length+bif isIn n p (l.getD k ar0) then 1 else 0:=by
 rw [q1x l ar0 k hk,List.filter_append,List.length_append,List.filter_cons];cases isIn n p (l.getD k ar0) <;> rfl
set_option maxRecDepth 100000 in
theorem zyapt_vc (l:List Ar) (n x y:Int) (h:cLApt.pre (l,n,x,y)) :
    True∧True∧bif !q3x l (6:Int) then true=true else (∃ (p':Nat),p'≤l.length∧((0:Int)=(↑(List.filter (isIn n (x,y)) (List.take p' l)).length:Int)∧(0:Int)=(↑p' :
    Int)∧l=l∧n=n∧True∧true=true∧True)∧((x=x∧y=y∧True)∧True)∧True∧True∧True∧True∧True∧True∧True∧True)∧∀ (p:Nat),p≤l.length→bif decide ((↑p :
    Int)<(l.length:Int)) then ((0:Int)≤(p:Int)∧(p:Int)<(l.length:Int))∧bif (l.getD (p:Int).toNat ([],(0:Int),[])).2.1==n then ((0:Int)≤(p:Int)∧(↑p :
    Int)<(l.length:Int))∧(l.getD (p:Int).toNat ([],(0:Int),[])).2.2.length≤(1000:Nat)∧bif q0i (l.getD (p:Int).toNat ([],(0:Int),[])).2.2 (x,y)==(1:Int) then
    ((-9223372036854775808:Int)≤(↑(List.filter (isIn n (x,y)) (List.take p l)).length:Int)+(1:Int)∧(↑(List.filter (isIn n (x,y)) (List.take p l)).length:Int)+(1:Int) ≤
    (9223372036854775807:Int))∧((-9223372036854775808:Int)≤(p:Int)+(1:Int)∧(p:Int)+(1:Int)≤(9223372036854775807:Int))∧∃ (p':Nat),p'≤l.length∧l.length-p' <
    l.length-p∧((↑(List.filter (isIn n (x,y)) (List.take p l)).length:Int)+(1:Int)=(↑(List.filter (isIn n (x,y)) (List.take p' l)).length:Int)∧(p:Int)+(1:Int)=(↑p' :
    Int)∧l=l∧n=n∧True∧true=true∧True)∧((x=x∧y=y∧True)∧True)∧True∧True∧True∧True∧True∧True∧True∧True else ((-9223372036854775808:Int)≤(p:Int) +
    (1:Int)∧(p:Int)+(1:Int)≤(9223372036854775807:Int))∧∃ (p':Nat),p'≤l.length∧l.length-p'<l.length-p∧((↑(List.filter (isIn n (x,y)) (List.take p l)).length :
    Int)=(↑(List.filter (isIn n (x,y)) (List.take p' l)).length:Int)∧(p:Int)+(1:Int)=(p':Int)∧l=l∧n=n∧True∧true=true∧True)∧((x=x∧y=y∧True)∧True) ∧
    True∧True∧True∧True∧True∧True∧True∧True else ((-9223372036854775808:Int)≤(p:Int)+(1:Int)∧(p:Int)+(1:Int)≤(9223372036854775807:Int))∧∃ (p':Nat),p' ≤
    l.length∧l.length-p'<l.length-p∧((↑(List.filter (isIn n (x,y)) (List.take p l)).length:Int)=(↑(List.filter (isIn n (x,y)) (List.take p' l)).length:Int)∧(p:Int)+(1 :
    Int)=(p':Int)∧l=l∧n=n∧True∧true=true∧True)∧((x=x∧y=y∧True)∧True)∧True∧True∧True∧True∧True∧True∧True∧True else FewZ l∧FewZ l∧bif !q2f
    Lx.q02 l n then true=true else bif decide ((↑(List.filter (isIn n (x,y)) (List.take p l)).length:Int)≤(1:Int)) then ((oneZ Lx.q02 l n (x,y)).2 != (8:Int))=true else false =
    true
     := by
  simp only [and_true,true_and,eq_self,and_self];refine bifP (λ_=>trivial) λhf=>?_
  have hF:FewZ l:=qad.1 (cast (Bool.not_eq_false' _) hf);have hl6:=hF.1;refine ⟨⟨0,Nat.zero_le _,rfl,rfl⟩,λk hk=>bifP (λhb=>?_) λhb=>?_⟩
  · have hkl:k<l.length:=by have:=of_decide_eq_true hb;omega
    have hm:=q1v l ar0 k hkl;have hcs:=isin_succ l n (x,y) hkl;have hcl:((l.take k).filter (isIn n (x,y))).length≤l.length:=Nat.le_trans (List.length_filter_le ..) (List.length_take_le' ..);have hsz:=(hF.2 _ hm).2;simp only [Int.toNat_natCast];dsimp only [ar0] at hcs hsz;refine ⟨by omega,bifP (λc1=>⟨by omega,by omega,bifP (λc2=>⟨by omega,by omega,k+1,by omega,by omega,?_,by omega⟩) λc2=>⟨by omega,k+1,by omega,by omega,?_,by omega⟩⟩) λc1=>⟨by omega,k+1,by omega,by omega,?_,by omega⟩⟩
    · have:isIn n (x,y) (l.getD k ([],0,[]))=true:=by unfold isIn;rw [c1,c2];rfl
      rw [hcs,this];rfl
    · have:isIn n (x,y) (l.getD k ([],0,[]))=false:=by unfold isIn;rw [c2,Bool.and_false]
      rw [hcs,this];rfl
    · have:isIn n (x,y) (l.getD k ([],0,[]))=false:=by unfold isIn;rw [c1];rfl
      rw [hcs,this];rfl
  · have:k=l.length:=by have:=of_decide_eq_false hb;omega
    subst this;rw [List.take_length];refine ⟨hF,hF,bifP (λ_=>trivial) λha=>?_⟩
    have ha:q2f Lx.q02 l n=true:=cast (Bool.not_eq_false' _) ha;have h1:=apart_few ha (x,y);have h2:=apart_once ha (x,y);refine bifP (λ_=>bne_iff_ne.2 h2) λe=>absurd (of_decide_eq_false e) (by omega)
set_option maxRecDepth 100000 in
theorem box_holds:cBox.Holds Tryz.prog:=by
 refine q0y (cons:=[]) Tryz.func27 (by kernel_rfl) (by kernel_rfl) mixed (by kernel_rfl) all_nil (λ_=>[]) λp hp=>?_
 obtain ⟨x,y,w,h⟩:=p;refine cast ?_ (box_vc x y w h hp)
 kernel_rfl
set_option maxRecDepth 100000 in
theorem fewR_holds:cFewR.Holds Tryz.prog:=by
 refine q0y (cons:=[]) Tryz.func28 (by kernel_rfl) (by kernel_rfl) mixed (by kernel_rfl) all_nil (λp=>anFew p.1) λp hp=>?_
 obtain ⟨l,n⟩:=p;obtain rfl:n=6:=hp;refine cast ?_ (fewR_vc l)
 kernel_rfl
set_option maxRecDepth 100000 in
theorem qjs:cFewZ.Holds Tryz.prog:=by
 refine q0y (cons:=[cFewR]) Tryz.func11 (by kernel_rfl) (by kernel_rfl) mixed (by kernel_rfl) (all_cons fewR_holds all_nil) (λ_=>[]) λp hp=>?_
 refine cast ?_ (fewZ_vc p)
 kernel_rfl
set_option maxRecDepth 100000 in
theorem qhf:cTexts.Holds Tryz.prog:=by
 refine q0y (cons:=[]) Tryz.func18 (by kernel_rfl) (by kernel_rfl) mixed (by kernel_rfl) all_nil (λp=>anTexts p.1 p.2) λp hp=>?_
 obtain ⟨a,b⟩:=p;refine cast ?_ (texts_vc a b hp)
 kernel_rfl
set_option maxRecDepth 100000 in
theorem hasl_holds:cHas.Holds Tryz.prog:=by
 refine q0y (cons:=[]) Tryz.func26 (by kernel_rfl) (by kernel_rfl) mixed (by kernel_rfl) all_nil (λp=>anHas p.1 p.2) λp hp=>?_
 obtain ⟨l,s⟩:=p;refine cast ?_ (hasl_vc l s hp)
 kernel_rfl
set_option maxRecDepth 100000 in
theorem kinds_holds:cKinds.Holds Tryz.prog:=by
 refine q0y (cons:=[]) Tryz.func23 (by kernel_rfl) (by kernel_rfl) mixed (by kernel_rfl) all_nil (λ_=>[]) λp hp=>?_
 refine cast ?_ (kinds_vc p)
 kernel_rfl
set_option maxHeartbeats 4000000 in
set_option maxRecDepth 100000 in
theorem qfx:cHead.Holds Tryz.prog:=by
 refine q0y (cons:=consHd) Tryz.func10 (by kernel_rfl) (by kernel_rfl) mixed (by kernel_rfl) (all_cons box_holds (all_cons (show cOne.lent.Holds Tryz.prog from qdm) (all_cons qjx (all_cons qhf (all_cons (show q6t.lent.Holds Tryz.prog from qb7) (all_cons (show q8p.lent.Holds Tryz.prog from qeq) all_nil)))))) (λ_=>[]) λp hp=>?_
 refine cast ?_ head_vc
 kernel_rfl
theorem q81:∀ c∈qae,c.Holds Tryz.prog :=
 all_cons qfx (all_cons qjs (all_cons qjx (all_cons (show cOne.lent.Holds Tryz.prog from qdm) (all_cons (show q8j.lent.Holds Tryz.prog from q7n) (all_cons kinds_holds (all_cons qec (all_cons qeu (all_cons hasl_holds (all_cons qhf (all_cons (show q6t.lent.Holds Tryz.prog from qb7) (all_cons (show q8p.lent.Holds Tryz.prog from qeq) all_nil)))))))))))
set_option maxHeartbeats 4000000 in
set_option maxRecDepth 100000 in
theorem zlall_holds:cLAll.Holds Tryz.prog:=by
 refine q0y (cons:=qae) Tryz.func4 (by kernel_rfl) (by kernel_rfl) mixed (by kernel_rfl) q81 (λp=>anLAll p.1 p.2.1 p.2.2) λp hp=>?_
 obtain ⟨l,n,x,y⟩:=p;refine cast ?_ (zyall_vc l n x y hp)
 kernel_rfl
set_option maxHeartbeats 4000000 in
set_option maxRecDepth 100000 in
theorem zlone_holds:cLOne.Holds Tryz.prog:=by
 refine q0y (cons:=qae) Tryz.func5 (by kernel_rfl) (by kernel_rfl) mixed (by kernel_rfl) q81 (λp=>anLOne p.1 p.2.1 p.2.2) λp hp=>?_
 obtain ⟨l,n,x,y⟩:=p;refine cast ?_ (zyone_vc l n x y hp)
 kernel_rfl
set_option maxHeartbeats 4000000 in
set_option maxRecDepth 100000 in
theorem zlnes_holds:cLNes.Holds Tryz.prog:=by
 refine q0y (cons:=qae) Tryz.func7 (by kernel_rfl) (by kernel_rfl) mixed (by kernel_rfl) q81 (λ_=>[]) λp hp=>?_
 obtain ⟨l,a,b,c,x,y⟩:=p;refine cast ?_ (zynes_vc l a b c x y hp)
 kernel_rfl
set_option maxHeartbeats 4000000 in
set_option maxRecDepth 100000 in
theorem zlord_holds:cLOrd.Holds Tryz.prog:=by
 refine q0y (cons:=qae) Tryz.func8 (by kernel_rfl) (by kernel_rfl) mixed (by kernel_rfl) q81 (λp=>anLOrd p.1 p.2.1) λp hp=>?_
 obtain ⟨l,n,x,y⟩:=p;refine cast ?_ (zyord_vc l n x y hp)
 kernel_rfl
set_option maxHeartbeats 4000000 in
set_option maxRecDepth 100000 in
theorem zlfew_holds:cLFew.Holds Tryz.prog:=by
 refine q0y (cons:=qae) Tryz.func9 (by kernel_rfl) (by kernel_rfl) mixed (by kernel_rfl) q81 (λp=>anLFew p.1 p.2.1 p.2.2.1 p.2.2.2) λp hp=>?_
 obtain ⟨l,n,⟨x,y⟩,u⟩:=p;refine cast ?_ (zyfew_vc l n x y u hp)
 kernel_rfl
set_option maxHeartbeats 4000000 in
set_option maxRecDepth 100000 in
theorem zlapt_holds:cLApt.Holds Tryz.prog:=by
 refine q0y (cons:=consApt) Tryz.func6 (by kernel_rfl) (by kernel_rfl) mixed (by kernel_rfl) (all_cons qfx (all_cons qjs (all_cons (show cOne.lent.Holds Tryz.prog from qdm) (all_cons qcd (all_cons (show q6t.lent.Holds Tryz.prog from qb7) all_nil))))) (λp=>anLApt p.1 p.2.1 p.2.2) λp hp=>?_
 obtain ⟨l,n,x,y⟩:=p;refine cast ?_ (zyapt_vc l n x y hp)
 kernel_rfl
end Go.Proofs.YtnpkpehlncnkgaaGreatDoor

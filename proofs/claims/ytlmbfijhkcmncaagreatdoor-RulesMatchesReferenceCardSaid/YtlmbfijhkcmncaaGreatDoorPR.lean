/-
  Several texts in one: RmL, RmB, GrG, RuY, RmC, RmD, RmE.
-/
import Derived.Test.YtlmbfijhkcmncaaGreatDoorPM
import Derived.Test.YtlmbfijhkcmncaaGreatDoorPQ
import Derived.Test.YtlmbfijhkcmncaaGreatDoorPP
open List renaming take→Q0,length_append→Q3,length_cons→Q8,flatMap→Q9,length_nil→Qa,drop→Qc,getD_eq_getElem?_getD→Qf,length_drop→Qj,mem_singleton→Qk,length→Ql,mem_cons→Qo,append_assoc→Qp,take_of_length_le→Qq,all_eq_true→Qr,take_length→Qs,mem_of_getElem?→Qt,getElem?_eq_getElem→Qu,cons_append→Qv,nil_append→Qw,contains_iff_mem→Qy,flatMap_append→Qz,any_eq_false→QA,length_take→QE,nodup_cons→QF,nodup_nil→QG,map→QH
open Bool renaming not_eq_false'→Q7,not_eq_true'→Qb,and_false→Qd,and_eq_true→Qg,true_and→Qi,false_and→Qn,not_eq_true→QD
open Nat renaming zero_le→Qe,le_trans→Qh
open Int renaming toNat_natCast→Qm
open UInt8 renaming le_iff_toNat_le→Qx
open Prod.mk renaming inj→QC
set_option linter.unusedVariables false
namespace Go.Proofs.YtlmbfijhkcmncaaGreatDoor
namespace Rul
theorem qfd (c:UInt8):Al.q1o c=true↔33≤c.toNat∧c.toNat≤126∧c.toNat≠34:=by
 unfold Al.q1o;rw [Qg,Qg,Qb,decide_eq_true_eq,decide_eq_true_eq,beq_eq_false_iff_ne,Qx,Qx];have h3:c=34↔c.toNat=34:=⟨λh=>by rw [h];rfl,λh=>UInt8.toNat_inj.1 h⟩
 constructor
 ·rintro ⟨⟨h1,h2⟩,h⟩
  exact ⟨h1,h2,λe=>h (h3.2 e)⟩
 ·rintro ⟨h1,h2,h⟩
  exact ⟨⟨h1,h2⟩,λe=>h (h3.1 e)⟩
theorem drop_take_eq (w:List Int) (a n:Nat):Qc a (Q0 (a+n) w)=(w.drop a).take n:=by
 rw [List.drop_take];congr 1;omega
theorem drop_getD (w:List Int) (a n:Nat):(w.drop a).getD n 0=w.getD (a+n) 0:=by
 rw [Qf,List.getElem?_drop,Qf]
theorem once_iff:∀ l:List Rule,once l=true↔l.Nodup
 | []=>by simp [once]
 | x::r=>by
  unfold once;rw [QF,Qg,once_iff r,Qb,QA];constructor
  ·rintro ⟨h1,h2⟩
   exact ⟨λhx=>h1 x hx (by simp),h2⟩
  ·rintro ⟨h1,h2⟩
   exact ⟨λy hy e=>h1 (by have:x=y:=(by simpa using e);subst this;exact hy),h2⟩
theorem q5f {r:q11}:q04 r=true↔Lx.q0j r.1=true∧Lx.q0j r.2.1=true∧1≤r.2.2.length∧r.2.2.length≤80∧r.2.2.all q1g=true∧r.2.2.Nodup:=by
 unfold q04;simp only [Qg,decide_eq_true_eq,once_iff]
theorem qjc {b:Bool} (h:b≠true):false=b:=(QD b▸h:b=false).symm
theorem qbw {x:Rule}:q1g x=true↔q0e x.1 1 9=true∧q0e x.2.1 0 9=true∧q0e x.2.2.1 0 30=true∧(x.2.2.2=true→x.2.2.1=[]):=by
 unfold q1g;simp only [Qg,Qb];refine and_congr Iff.rfl (and_congr Iff.rfl (and_congr Iff.rfl ?_));cases x.2.2.2 <;> simp
end Rul
theorem text_few (l:List Rul.Rule) (hx:∀ x∈l,x.1.length≤1000∧x.2.1.length≤1000∧x.2.2.1.length≤1000) (k:Nat) (hk:k≤l.length):((l.take k).flatMap Rul.q0b).length≤k*4000:=by
 induction k with
 | zero=>exact Qe _
 | succ k ih =>
  have:=ih (by omega)
  rw [Snd.q70 l ([],[],[],false) k (by omega),Qz,Q3]
  obtain ⟨h1,h2,h3⟩:=hx _ (Snd.q5y l ([],[],[],false) k (by omega))
  generalize l.getD k ([],[],[],false)=x at *
  have:([x].flatMap Rul.q0b).length≤4000:=by
   simp only [List.flatMap_cons,List.flatMap_nil,List.append_nil];unfold Rul.q0b Rul.quo;split
   ·simp only [Q3,Q8,Qa];omega
   ·split <;> simp only [Q3,Q8,Qa] <;> omega
  omega
open Go.RowKit R
theorem read_few (L:List (List UInt8)) (s:List UInt8) (m:Int):(Rul.q07 L s m).1.length≤1000000:=by
 unfold Rul.q07;split
 ·exact Qe _
 ·exact Qh (Al.qbb L s) (by decide)
set_option maxRecDepth 100000 in
theorem gPlain_vc (s:List UInt8) (lo hi:Int) (h:gPlain.pre (s,lo,hi)) :
    (∃ (p':Nat),(p'≤s.length∧(Q0 p' s).all Al.q1o=true)∧((0:Int)=(p':Int)∧s=s∧lo=lo∧hi=hi∧True)∧True∧True∧True∧True∧True∧True∧True∧True
    ∧ True)∧∀ (p:Nat),p≤s.length∧(Q0 p s).all Al.q1o=true→bif decide ((p:Int)<(s.length:Int)) then ((0:Int)≤(p:Int)∧(p:Int)<(s.length:Int))∧bif
    decide ((↑(s.getD (p:Int).toNat (0:UInt8)).toNat:Int)<(33:Int)) then false=Rul.q0e s lo hi else ((0:Int)≤(p:Int)∧(p:Int)<(s.length:Int))∧bif decide ((126 :
    Int)<(↑(s.getD (p:Int).toNat (0:UInt8)).toNat:Int)) then false=Rul.q0e s lo hi else ((0:Int)≤(p:Int)∧(p:Int)<(s.length:Int))∧bif (↑(s.getD (p:Int).toNat
    (0:UInt8)).toNat:Int)==(34:Int) then false=Rul.q0e s lo hi else ((-9223372036854775808:Int)≤(p:Int)+(1:Int)∧(p:Int)+(1:Int)≤(9223372036854775807:Int)) ∧
    ∃ (p':Nat),(p'≤s.length∧(Q0 p' s).all Al.q1o=true)∧s.length-p'<s.length-p∧((p:Int)+(1:Int)=(p':Int)∧s=s∧lo=lo∧hi=hi∧True)∧True∧True
    ∧ True∧True∧True∧True∧True∧True∧True else bif decide (lo≤(s.length:Int)) then decide ((s.length:Int)≤hi)=Rul.q0e s lo hi else false=Rul.q0e s lo hi
     := by
  have hl:s.length≤1000000000:=h;simp only [true_and,and_true,eq_self,and_self];have hF:Rul.q0e s lo hi=(s.all Al.q1o&&(decide (lo≤(s.length:Int))&&decide ((s.length:Int)≤hi))):=rfl;rw [hF];refine ⟨⟨0,⟨Qe _,rfl⟩,rfl⟩,?_⟩;rintro k ⟨hk,ha⟩;refine bifP (λhb=>?_) λhb=>?_
  · have hkl:k<s.length:=by have:=of_decide_eq_true hb;omega
    simp only [Qm];have bad:¬ Al.q1o (s.getD k 0)=true→false=(s.all Al.q1o&&(decide (lo≤(s.length:Int))&&decide ((s.length:Int)≤hi))):=λhn=>Rul.qjc λht=>by
      rw [Qg,Qr] at ht;exact hn (ht.1 _ (Snd.q5y s 0 k hkl))
    refine ⟨by omega,bifP (λc1=>bad ?_) λc1=>⟨by omega,bifP (λc2=>bad ?_) λc2=>⟨by omega,bifP (λc3=>bad ?_) λc3=>⟨by omega,k+1,⟨by omega,?_⟩,by omega,by omega⟩⟩⟩⟩
    · rw [Rul.qfd];have:=of_decide_eq_true c1;omega
    · rw [Rul.qfd];have:=of_decide_eq_true c2;omega
    · rw [Rul.qfd];have:=eq_of_beq c3;omega
    · rw [Snd.qev s 0 _ k hkl,ha,Qi,Rul.qfd]
      have h1:=of_decide_eq_false c1;have h2:=of_decide_eq_false c2;have h3:¬ ((s.getD k 0).toNat:Int)=34:=by simpa using c3
      omega
  · have:k=s.length:=by have:=of_decide_eq_false hb;omega
    subst this;rw [Qs] at ha;rw [ha,Qi];refine bifP (λc1=>?_) λc1=>?_
    · rw [c1];rfl
    · rw [c1];rfl
abbrev qdv (l:List Rul.Rule) (p:Nat) (r1:List UInt8) (r2:List UInt8):Prop :=
 ((r1=r1∧r2=r2∧l=l∧True)∧(zE ((l.getD (p:Int).toNat ([],[],[],false)).1)∧zE ((l.getD (p:Int).toNat ([],[],[],false)).2.1)∧zE ((l.getD (p:Int).toNat ([],[],[],false)).2.2.1)∧zE ((l.getD (p:Int).toNat ([],[],[],false)).2.2.2)∧True)∧True)
abbrev qdf (l:List Rul.Rule) (p:Nat) (p':Nat):Prop :=
 (p'≤(p:Int).toNat∧((Q0 p' l).any λ(y:Rul.Rule)=>y==l.getD (p:Int).toNat q0n)=false)
set_option maxRecDepth 100000 in
theorem gFormed_vc (r1 r2:List UInt8) (l:List Rul.Rule) (h:qhi.pre (r1,r2,l)) :
  r1.length≤(1000000:Nat)∧bif !Lx.q0j r1 then false=Rul.q04 (r1,r2,l) else r2.length≤(1000000:Nat)∧bif !Lx.q0j r2 then false=Rul.q04 (r1,r2,l) else bif decide ((l.length:Int)<1) then false=Rul.q04 (r1,r2,l) else bif decide (80<(l.length:Int)) then false=Rul.q04 (r1,r2,l) else (∃ (p':Nat),(p'≤l.length∧(Q0 p' l).all Rul.q1g=true∧(Q0 p' l).Nodup)∧((0:Int)=(p':Int)∧True∧True)∧((r1=r1∧r2=r2∧l=l∧True)∧True)∧zT8)∧∀ (p:Nat),p≤l.length∧(Q0 p l).all Rul.q1g=true∧(Q0 p l).Nodup→bif decide ((p:Int)<(l.length:Int)) then (0≤(p:Int)∧(p:Int)<(l.length:Int))∧(l.getD (p:Int).toNat ([],[],[],false)).1.length≤(1000000000:Nat)∧bif !Rul.q0e (l.getD (p:Int).toNat ([],[],[],false)).1 (1:Int) (9:Int) then false=Rul.q04 (r1,r2,l) else (l.getD (p:Int).toNat ([],[],[],false)).2.1.length≤(1000000000:Nat)∧bif !Rul.q0e (l.getD (p:Int).toNat ([],[],[],false)).2.1 (0:Int) (9:Int) then false=Rul.q04 (r1,r2,l) else (l.getD (p:Int).toNat ([],[],[],false)).2.2.1.length≤(1000000000:Nat)∧bif !Rul.q0e (l.getD (p:Int).toNat ([],[],[],false)).2.2.1 (0:Int) (30:Int) then false=Rul.q04 (r1,r2,l) else bif (l.getD (p:Int).toNat ([],[],[],false)).2.2.2 then bif !(l.getD (p:Int).toNat ([],[],[],false)).2.2.1==[] then false=Rul.q04 (r1,r2,l) else (∃ (p':Nat),(qdf l p p')∧((0:Int)=(p':Int)∧True∧zE (p:Int)∧True∧True)∧(qdv l p r1 r2)∧zT8)∧∀ (p_1:Nat),p_1≤(p:Int).toNat∧((Q0 p_1 l).any λ(y:Rul.Rule)=>y==l.getD (p:Int).toNat q0n)=false→bif decide ((p_1:Int)<(p:Int)) then (0≤(p_1:Int)∧(p_1:Int)<(l.length:Int))∧bif (l.getD (p_1:Int).toNat ([],[],[],false)).1==(l.getD (p:Int).toNat ([],[],[],false)).1&&((l.getD (p_1:Int).toNat ([],[],[],false)).2.1==(l.getD (p:Int).toNat ([],[],[],false)).2.1&&((l.getD (p_1:Int).toNat ([],[],[],false)).2.2.1==(l.getD (p:Int).toNat ([],[],[],false)).2.2.1&&((l.getD (p_1:Int).toNat ([],[],[],false)).2.2.2==(l.getD (p:Int).toNat ([],[],[],false)).2.2.2&&true))) then false=Rul.q04 (r1,r2,l) else (zFit ((p_1:Int)+1))∧∃ (p':Nat),(qdf l p p')∧(p:Int).toNat-p'<(p:Int).toNat-p_1∧((p_1:Int)+1=(p':Int)∧True∧zE (p:Int)∧True∧True)∧(qdv l p r1 r2)∧zT8 else (zFit ((p:Int)+1))∧∃ (p':Nat),(p'≤l.length∧(Q0 p' l).all Rul.q1g=true∧(Q0 p' l).Nodup)∧l.length-p'<l.length-p∧((p:Int)+1=(p':Int)∧True∧True)∧((r1=r1∧r2=r2∧l=l∧True)∧True)∧zT8 else (∃ (p':Nat),(qdf l p p')∧((0:Int)=(p':Int)∧True∧zE (p:Int)∧True∧True)∧(qdv l p r1 r2)∧zT8)∧∀ (p_1:Nat),p_1≤(p:Int).toNat∧((Q0 p_1 l).any λ(y:Rul.Rule)=>y==l.getD (p:Int).toNat q0n)=false→bif decide ((p_1:Int)<(p:Int)) then (0≤(p_1:Int)∧(p_1:Int)<(l.length:Int))∧bif (l.getD (p_1:Int).toNat ([],[],[],false)).1==(l.getD (p:Int).toNat ([],[],[],false)).1&&((l.getD (p_1:Int).toNat ([],[],[],false)).2.1==(l.getD (p:Int).toNat ([],[],[],false)).2.1&&((l.getD (p_1:Int).toNat ([],[],[],false)).2.2.1==(l.getD (p:Int).toNat ([],[],[],false)).2.2.1&&((l.getD (p_1:Int).toNat ([],[],[],false)).2.2.2==(l.getD (p:Int).toNat ([],[],[],false)).2.2.2&&true))) then false=Rul.q04 (r1,r2,l) else (zFit ((p_1:Int)+1))∧∃ (p':Nat),(qdf l p p')∧(p:Int).toNat-p'<(p:Int).toNat-p_1∧((p_1:Int)+1=(p':Int)∧True∧zE (p:Int)∧True∧True)∧(qdv l p r1 r2)∧zT8 else (zFit ((p:Int)+1))∧∃ (p':Nat),(p'≤l.length∧(Q0 p' l).all Rul.q1g=true∧(Q0 p' l).Nodup)∧l.length-p'<l.length-p∧((p:Int)+1=(p':Int)∧True∧True)∧((r1=r1∧r2=r2∧l=l∧True)∧True)∧zT8 else true=Rul.q04 (r1,r2,l):=by
 delta qdv qdf zFit zE zT8
 obtain ⟨h1,h2,hl,hx⟩:r1.length≤1000∧r2.length≤1000∧l.length≤1000∧∀ x∈l,FewT x:=h;simp only [true_and,and_true,eq_self,and_self];have bad:(Rul.q04 (r1,r2,l)=true→False)→false=Rul.q04 (r1,r2,l):=λh=>Rul.qjc h
 refine ⟨by omega,bifP (λc1=>bad λht=>?_) λc1=>⟨by omega,bifP (λc2=>bad λht=>?_) λc2=>bifP (λc3=>bad λht=>?_) λc3=>bifP (λc4=>bad λht=>?_) λc4=>⟨⟨0,⟨Qe _,rfl,QG⟩,rfl⟩,?_⟩⟩⟩
 ·rw [show Lx.q0j r1=true from (Rul.q5f.1 ht).1] at c1;cases c1
 ·rw [show Lx.q0j r2=true from (Rul.q5f.1 ht).2.1] at c2;cases c2
 ·have:1≤l.length:=(Rul.q5f.1 ht).2.2.1
  have:=of_decide_eq_true c3;omega
 ·have:l.length≤80:=(Rul.q5f.1 ht).2.2.2.1
  have:=of_decide_eq_true c4;omega
 rintro k ⟨hk,ha,hn⟩;refine bifP (λhb=>?_) λhb=>?_
 rotate_left
 ·have:k=l.length:=by have:=of_decide_eq_false hb;omega
  subst this;rw [Qs] at ha hn;have:=of_decide_eq_false c3;have:=of_decide_eq_false c4;exact (Rul.q5f.2 ⟨cast (Q7 _) c1,cast (Q7 _) c2,by show 1≤l.length;omega,by show l.length≤80;omega,ha,hn⟩).symm
 have hkl:k<l.length:=by have:=of_decide_eq_true hb;omega
 simp only [Qm];have hm:=Snd.q5y l q0n k hkl;have hT:=hx _ hm;have bad2:(Rul.q1g (l.getD k q0n)=true→False)→false=Rul.q04 (r1,r2,l):=λh=>bad λht=>h (Qr.1 (Rul.q5f.1 ht).2.2.2.2.1 _ hm)
 have inner:Rul.q1g (l.getD k q0n)=true→(∃ p':Nat,(p'≤k∧((l.take p').any λy=>y==l.getD k q0n)=false)∧(0:Int)=(p':Int))∧∀ j:Nat,j≤k∧((l.take j).any λy=>y==l.getD k q0n)=false→bif decide ((j:Int)<(k:Int)) then
   ((0:Int)≤(j:Int)∧(j:Int)<(l.length:Int))∧bif (l.getD j q0n).1==(l.getD k q0n).1&&((l.getD j q0n).2.1==(l.getD k q0n).2.1&&((l.getD j q0n).2.2.1==(l.getD k q0n).2.2.1&&((l.getD j q0n).2.2.2==(l.getD k q0n).2.2.2&&true))) then false=Rul.q04 (r1,r2,l) else
    ((-9223372036854775808:Int)≤(j:Int)+1∧(j:Int)+1≤9223372036854775807)∧∃ p':Nat,(p'≤k∧((l.take p').any λy=>y==l.getD k q0n)=false)∧k-p'<k-j∧(j:Int)+1=(p':Int)
   else ((-9223372036854775808:Int)≤(k:Int)+1∧(k:Int)+1≤9223372036854775807)∧∃ p':Nat,(p'≤l.length∧(l.take p').all Rul.q1g=true∧(l.take p').Nodup)∧l.length-p'<l.length-k∧(k:Int)+1=(p':Int):=λhok=>by
  refine ⟨⟨0,⟨Qe _,rfl⟩,rfl⟩,?_⟩;rintro j ⟨hj,hja⟩;refine bifP (λhb2=>?_) λhb2=>?_
  ·have hjk:j<k:=by have:=of_decide_eq_true hb2;omega
   have heq:((l.getD j q0n).1==(l.getD k q0n).1&&((l.getD j q0n).2.1==(l.getD k q0n).2.1&&((l.getD j q0n).2.2.1==(l.getD k q0n).2.2.1&&((l.getD j q0n).2.2.2==(l.getD k q0n).2.2.2&&true))))=(l.getD j q0n==l.getD k q0n):=by rw [Bool.and_true];rfl
   rw [heq];refine ⟨by omega,bifP (λc5=>bad λht=>?_) λc5=>⟨by omega,j+1,⟨by omega,?_⟩,by omega,by omega⟩⟩
   ·have hnd:=(Rul.q5f.1 ht).2.2.2.2.2
    rw [List.nodup_iff_pairwise_ne,List.pairwise_iff_getElem] at hnd;have:=hnd j k (show j<l.length by omega) hkl hjk
    have c5:=eq_of_beq c5;rw [Qf,Qu (show j<l.length by omega),Qf,Qu hkl] at c5
    exact this c5
   ·rw [Snd.q70 l q0n j (by omega),List.any_append,hja,List.any_cons,List.any_nil,Bool.or_false];exact c5
  ·have:j=k:=by have:=of_decide_eq_false hb2;omega
   subst this;refine ⟨by omega,j+1,⟨by omega,by rw [Snd.qev l q0n _ j hkl,ha,hok];rfl,?_⟩,by omega,by omega⟩
   rw [Snd.q70 l q0n j hkl,List.nodup_append];refine ⟨hn,QF.2 ⟨by simp,QG⟩,λx hx y hy e=>?_⟩
   obtain rfl:=Qk.1 hy;exact QA.1 hja x hx (by rw [e,beq_self_eq_true])
 refine ⟨by omega,Qh hT.1 (by decide),bifP (λc5=>bad2 λht=>?_) λc5=>⟨Qh hT.2.1 (by decide),bifP (λc6=>bad2 λht=>?_) λc6=>⟨Qh hT.2.2 (by decide),bifP (λc7=>bad2 λht=>?_) λc7=>bifP (λc8=>bifP (λc9=>bad2 λht=>?_) λc9=>inner ?_) λc8=>inner ?_⟩⟩⟩
 ·rw [show Rul.q0e (l.getD k q0n).1 1 9=true from (Rul.qbw.1 ht).1] at c5;cases c5
 ·rw [show Rul.q0e (l.getD k q0n).2.1 0 9=true from (Rul.qbw.1 ht).2.1] at c6;cases c6
 ·rw [show Rul.q0e (l.getD k q0n).2.2.1 0 30=true from (Rul.qbw.1 ht).2.2.1] at c7;cases c7
 ·rw [show (l.getD k q0n).2.2.1=[] from (Rul.qbw.1 ht).2.2.2 c8] at c9;cases c9
 ·exact Rul.qbw.2 ⟨cast (Q7 _) c5,cast (Q7 _) c6,cast (Q7 _) c7,λ_=>eq_of_beq (cast (Q7 _) c9)⟩
 ·exact Rul.qbw.2 ⟨cast (Q7 _) c5,cast (Q7 _) c6,cast (Q7 _) c7,λh=>by rw [show (l.getD k q0n).2.2.2=false from c8] at h;cases h⟩
set_option maxRecDepth 100000 in
theorem gLetters_vc (p:AlP) (s:List UInt8) (m:Int) (h:qf0.pre (p,s,m)) :
    bif s==[] then ([],true)=Rul.q07 p.2.1 s m else (q3g p∧s.length≤(1000000:Nat))∧bif (Al.q0m p.2.1 s).2.1==(0:Int) then ((Al.q0m p.2.1 s).1,decide ((↑(Al.q0m p.2.1
    s).1.length:Int)≤m))=Rul.q07 p.2.1 s m else ((Al.q0m p.2.1 s).1,false)=Rul.q07 p.2.1 s m
     := by
  obtain ⟨hp,hs⟩:q3g p∧s.length≤1000000:=h
  try simp only [true_and,and_true,eq_self,and_self]
  unfold Rul.q07;refine bifP (λc1=>?_) λc1=>⟨⟨hp,hs⟩,?_⟩
  · rw [if_pos (eq_of_beq c1)]
  · rw [if_neg (by intro e;rw [e] at c1;cases c1)]
    refine bifP (λc2=>?_) λc2=>?_
    · rw [c2];rfl
    · rw [c2];rfl
set_option maxRecDepth 100000 in
theorem gValid_vc (r:Rul.q11) (f t:AlP) (h:gValid.pre (r,f,t)) :
    FewR r∧bif !Rul.q04 r then false=Rul.q09 r (alOf f) (alOf t) else FewP f∧bif !Al.q09 (alOf f) then false=Rul.q09 r (alOf f) (alOf t) else FewP t∧bif !Al.q09 (alOf
    t) then false=Rul.q09 r (alOf f) (alOf t) else bif !r.1==f.1 then false=Rul.q09 r (alOf f) (alOf t) else bif !r.2.1==t.1 then false=Rul.q09 r (alOf f) (alOf t) else (∃ (p'
    : Nat),(p'≤r.2.2.length∧(Q0 p' r.2.2).all (Rul.okIn f.2.1 t.2.1)=true)∧((0:Int)=(p':Int)∧True∧True∧True∧True)∧((r.1=r.1∧r.2.1=r.2.1∧r.2.2=r.2.2 ∧
    True)∧(f.1=f.1∧f.2.1=f.2.1∧f.2.2=f.2.2∧True)∧(t.1=t.1∧t.2.1=t.2.1∧t.2.2=t.2.2∧True)∧True)∧True∧True∧True∧True∧True∧True∧True∧True)∧∀ (p :
    Nat),p≤r.2.2.length∧(Q0 p r.2.2).all (Rul.okIn f.2.1 t.2.1)=true→bif decide ((p:Int)<(r.2.2.length:Int)) then ((0:Int)≤(p:Int)∧(p:Int)<(↑r.2.2.length :
    Int))∧(q3g f∧(r.2.2.getD (p:Int).toNat ([],[],[],false)).1.length≤(1000000:Nat))∧((0:Int)≤(p:Int)∧(p:Int)<(r.2.2.length:Int))∧(q3g t∧(r.2.2.getD
    (p:Int).toNat ([],[],[],false)).2.1.length≤(1000000:Nat))∧((0:Int)≤(p:Int)∧(p:Int)<(r.2.2.length:Int))∧(q3g f∧(r.2.2.getD (p:Int).toNat ([],[],[],
    false)).2.2.1.length≤(1000000:Nat))∧bif !(Rul.q07 f.2.1 (r.2.2.getD (p:Int).toNat ([],[],[],false)).1 (3:Int)).2 then false=Rul.q09 r (alOf f) (alOf t) else bif
    !(Rul.q07 t.2.1 (r.2.2.getD (p:Int).toNat ([],[],[],false)).2.1 (3:Int)).2 then false=Rul.q09 r (alOf f) (alOf t) else bif !(Rul.q07 f.2.1 (r.2.2.getD (p:Int).toNat ([],
    [],[],false)).2.2.1 (10:Int)).2 then false=Rul.q09 r (alOf f) (alOf t) else ((-9223372036854775808:Int)≤(p:Int)+(1:Int)∧(p:Int)+(1:Int)≤(9223372036854775807 :
    Int))∧∃ (p':Nat),(p'≤r.2.2.length∧(Q0 p' r.2.2).all (Rul.okIn f.2.1 t.2.1)=true)∧r.2.2.length-p'<r.2.2.length-p∧((p:Int)+(1:Int)=(p':Int)∧True ∧
    True∧True∧True)∧((r.1=r.1∧r.2.1=r.2.1∧r.2.2=r.2.2∧True)∧(f.1=f.1∧f.2.1=f.2.1∧f.2.2=f.2.2∧True)∧(t.1=t.1∧t.2.1=t.2.1∧t.2.2=t.2.2∧True)∧True) ∧
    True∧True∧True∧True∧True∧True∧True∧True else true=Rul.q09 r (alOf f) (alOf t)
     := by
  obtain ⟨hR,hf,ht⟩:FewR r∧FewP f∧FewP t:=h;simp only [true_and,and_true,eq_self,and_self];have hF:Rul.q09 r (alOf f) (alOf t)=(Rul.q04 r&&(Al.q09 (alOf f)&&(Al.q09 (alOf t)&&(r.1==f.1&&(r.2.1==t.1&&r.2.2.all (Rul.okIn f.2.1 t.2.1)))))):=rfl;rw [hF];refine ⟨hR,bifP (λc1=>?_) λc1=>⟨hf,bifP (λc2=>?_) λc2=>⟨ht,bifP (λc3=>?_) λc3=>bifP (λc4=>?_) λc4=>bifP (λc5=>?_) λc5=>?_⟩⟩⟩
  · rw [cast (Qb _) c1];rfl
  · rw [cast (Qb _) c2,Qn,Qd]
  · rw [cast (Qb _) c3,Qn,Qd,Qd]
  · rw [cast (Qb _) c4,Qn,Qd,Qd,Qd]
  · rw [cast (Qb _) c5,Qn,Qd,Qd,Qd,Qd]
  have vf:=cast (Q7 _) c2;have vt:=cast (Q7 _) c3;have gf:q3g f:=⟨hf,by unfold Al.q09 at vf;rw [Qg] at vf;exact vf.1⟩
  have gt:q3g t:=⟨ht,by unfold Al.q09 at vt;rw [Qg] at vt;exact vt.1⟩
  rw [cast (Q7 _) c1,vf,vt,cast (Q7 _) c4,cast (Q7 _) c5];simp only [Qi];obtain ⟨_,_,hl,hx⟩:=hR;refine ⟨⟨0,⟨Qe _,rfl⟩,rfl⟩,?_⟩;rintro k ⟨hk,ha⟩;refine bifP (λhb=>?_) λhb=>?_
  · have hkl:k<r.2.2.length:=by have:=of_decide_eq_true hb;omega
    simp only [Qm];have hm:=Snd.q5y r.2.2 q0n k hkl;have hT:=hx _ hm;have bad:(Rul.okIn f.2.1 t.2.1 (r.2.2.getD k q0n)=true→False)→false=r.2.2.all (Rul.okIn f.2.1 t.2.1):=λh=>Rul.qjc λht=>h (Qr.1 ht _ hm)
    have hok:Rul.okIn f.2.1 t.2.1 (r.2.2.getD k q0n)=((Rul.q07 f.2.1 (r.2.2.getD k q0n).1 3).2&&((Rul.q07 f.2.1 (r.2.2.getD k q0n).2.2.1 10).2&&(Rul.q07 t.2.1 (r.2.2.getD k q0n).2.1 3).2)):=rfl;refine ⟨by omega,⟨gf,Qh hT.1 (by decide)⟩,by omega,⟨gt,Qh hT.2.1 (by decide)⟩,by omega,⟨gf,Qh hT.2.2 (by decide)⟩,bifP (λc6=>bad λh=>?_) λc6=>bifP (λc7=>bad λh=>?_) λc7=>bifP (λc8=>bad λh=>?_) λc8=>⟨by omega,k+1,⟨by omega,?_⟩,by omega,by omega⟩⟩
    · rw [hok,show (Rul.q07 f.2.1 (r.2.2.getD k q0n).1 3).2=false from cast (Qb _) c6] at h;cases h
    · rw [hok,show (Rul.q07 t.2.1 (r.2.2.getD k q0n).2.1 3).2=false from cast (Qb _) c7,Qd,Qd] at h;cases h
    · rw [hok,show (Rul.q07 f.2.1 (r.2.2.getD k q0n).2.2.1 10).2=false from cast (Qb _) c8,Qn,Qd] at h;cases h
    · rw [Snd.qev r.2.2 q0n _ k hkl,ha,hok,show (Rul.q07 f.2.1 (r.2.2.getD k q0n).1 3).2=true from cast (Q7 _) c6,show (Rul.q07 t.2.1 (r.2.2.getD k q0n).2.1 3).2=true from cast (Q7 _) c7,show (Rul.q07 f.2.1 (r.2.2.getD k q0n).2.2.1 10).2=true from cast (Q7 _) c8];rfl
  · have:k=r.2.2.length:=by have:=of_decide_eq_false hb;omega
    subst this;rw [Qs] at ha;exact ha.symm
set_option maxRecDepth 100000 in
theorem gStands_vc (x:Rul.Rule) (al:AlP) (w:List Int) (at_:Int) (h:gStands.pre (x,al,w,at_)) :
    (q3g al∧x.1.length≤(1000000:Nat))∧(q3g al∧x.2.2.1.length≤(1000000:Nat))∧((-9223372036854775808:Int)≤at_+(↑(Rul.q07 al.2.1 x.1 (3:Int)).1.length:Int)∧at_ +
    (↑(Rul.q07 al.2.1 x.1 (3:Int)).1.length:Int)≤(9223372036854775807:Int))∧bif decide ((w.length:Int)<at_+(↑(Rul.q07 al.2.1 x.1 (3:Int)).1.length:Int)) then false =
    Rul.q0x (Rul.q1b al.2.1 x) (Qc at_.toNat w) else ((-9223372036854775808:Int)≤at_+(↑(Rul.q07 al.2.1 x.1 (3:Int)).1.length:Int)∧at_+(↑(Rul.q07 al.2.1 x.1 (3 :
    Int)).1.length:Int)≤(9223372036854775807:Int))∧((0:Int)≤at_∧at_≤at_+(↑(Rul.q07 al.2.1 x.1 (3:Int)).1.length:Int)∧at_+(↑(Rul.q07 al.2.1 x.1 (3:Int)).1.length :
    Int)≤(w.length:Int))∧((Rul.q07 al.2.1 x.1 (3:Int)).1.length≤(1000000000000000:Nat)∧(Qc at_.toNat (Q0 (at_+(↑(Rul.q07 al.2.1 x.1 (3:Int)).1.length :
    Int)).toNat w)).length≤(1000000000000000:Nat))∧bif !(Rul.q07 al.2.1 x.1 (3:Int)).1==Qc at_.toNat (Q0 (at_+(↑(Rul.q07 al.2.1 x.1 (3:Int)).1.length :
    Int)).toNat w) then false=Rul.q0x (Rul.q1b al.2.1 x) (Qc at_.toNat w) else ((-9223372036854775808:Int)≤at_+(↑(Rul.q07 al.2.1 x.1 (3:Int)).1.length:Int)∧at_ +
    (↑(Rul.q07 al.2.1 x.1 (3:Int)).1.length:Int)≤(9223372036854775807:Int))∧bif x.2.2.2 then (at_+(↑(Rul.q07 al.2.1 x.1 (3:Int)).1.length:Int)==(w.length:Int)) =
    Rul.q0x (Rul.q1b al.2.1 x) (Qc at_.toNat w) else bif (↑(Rul.q07 al.2.1 x.2.2.1 (10:Int)).1.length:Int)==(0:Int) then true=Rul.q0x (Rul.q1b al.2.1 x) (Qc
    at_.toNat w) else (∃ (p':Nat),(p'≤(Rul.q07 al.2.1 x.2.2.1 (10:Int)).1.length∧(at_.toNat+(Rul.q07 al.2.1 x.1 (3:Int)).1.length<w.length→(Q0 p' (Rul.q07 al.2.1
    x.2.2.1 (10:Int)).1).contains (w.getD (at_.toNat+(Rul.q07 al.2.1 x.1 (3:Int)).1.length) (0:Int))=false))∧((0:Int)=(p':Int)∧w=w∧(Rul.q07 al.2.1 x.2.2.1 (10 :
    Int)).1=(Rul.q07 al.2.1 x.2.2.1 (10:Int)).1∧at_+(↑(Rul.q07 al.2.1 x.1 (3:Int)).1.length:Int)=at_+(↑(Rul.q07 al.2.1 x.1 (3:Int)).1.length:Int)∧True)∧True∧True
    ∧ True∧True∧True∧True∧True∧True∧True)∧∀ (p:Nat),p≤(Rul.q07 al.2.1 x.2.2.1 (10:Int)).1.length∧(at_.toNat+(Rul.q07 al.2.1 x.1 (3:Int)).1.length<w.length →
    (Q0 p (Rul.q07 al.2.1 x.2.2.1 (10:Int)).1).contains (w.getD (at_.toNat+(Rul.q07 al.2.1 x.1 (3:Int)).1.length) (0:Int))=false)→bif decide ((p:Int)<(↑(Rul.q07
    al.2.1 x.2.2.1 (10:Int)).1.length:Int)) then bif decide (at_+(↑(Rul.q07 al.2.1 x.1 (3:Int)).1.length:Int)<(w.length:Int)) then ((0:Int)≤(p:Int)∧(p:Int) <
    (↑(Rul.q07 al.2.1 x.2.2.1 (10:Int)).1.length:Int))∧((0:Int)≤at_+(↑(Rul.q07 al.2.1 x.1 (3:Int)).1.length:Int)∧at_+(↑(Rul.q07 al.2.1 x.1 (3:Int)).1.length:Int) <
    (w.length:Int))∧bif (Rul.q07 al.2.1 x.2.2.1 (10:Int)).1.getD (p:Int).toNat (0:Int)==w.getD (at_+(↑(Rul.q07 al.2.1 x.1 (3:Int)).1.length:Int)).toNat (0:Int) then
    true=Rul.q0x (Rul.q1b al.2.1 x) (Qc at_.toNat w) else ((-9223372036854775808:Int)≤(p:Int)+(1:Int)∧(p:Int)+(1:Int)≤(9223372036854775807:Int))∧∃ (p' :
    Nat),(p'≤(Rul.q07 al.2.1 x.2.2.1 (10:Int)).1.length∧(at_.toNat+(Rul.q07 al.2.1 x.1 (3:Int)).1.length<w.length→(Q0 p' (Rul.q07 al.2.1 x.2.2.1 (10 :
    Int)).1).contains (w.getD (at_.toNat+(Rul.q07 al.2.1 x.1 (3:Int)).1.length) (0:Int))=false))∧(Rul.q07 al.2.1 x.2.2.1 (10:Int)).1.length-p'<(Rul.q07 al.2.1 x.2.2.1 (10 :
    Int)).1.length-p∧((p:Int)+(1:Int)=(p':Int)∧w=w∧(Rul.q07 al.2.1 x.2.2.1 (10:Int)).1=(Rul.q07 al.2.1 x.2.2.1 (10:Int)).1∧at_+(↑(Rul.q07 al.2.1 x.1 (3 :
    Int)).1.length:Int)=at_+(↑(Rul.q07 al.2.1 x.1 (3:Int)).1.length:Int)∧True)∧True∧True∧True∧True∧True∧True∧True∧True∧True else false=Rul.q0x (Rul.q1b
    al.2.1 x) (Qc at_.toNat w) else false=Rul.q0x (Rul.q1b al.2.1 x) (Qc at_.toNat w)
     := by
  obtain ⟨hT,hp,hw,h0,h1⟩:FewT x∧q3g al∧w.length≤1000000∧0≤at_∧at_≤(w.length:Int):=h;obtain ⟨a,rfl⟩:∃ a:Nat,at_=(a:Int):=⟨at_.toNat,by omega⟩
  simp only [true_and,and_true,eq_self,and_self,Qm];have hF:Rul.q0x (Rul.q1b al.2.1 x) (w.drop a)=(decide ((Rul.q07 al.2.1 x.1 3).1.length≤(w.drop a).length)&&((Rul.q07 al.2.1 x.1 3).1==(w.drop a).take (Rul.q07 al.2.1 x.1 3).1.length &&
    (if x.2.2.2 then (Rul.q07 al.2.1 x.1 3).1.length==(w.drop a).length else if (Rul.q07 al.2.1 x.2.2.1 10).1=[] then true else decide ((Rul.q07 al.2.1 x.1 3).1.length<(w.drop a).length)&&(Rul.q07 al.2.1 x.2.2.1 10).1.contains ((w.drop a).getD (Rul.q07 al.2.1 x.1 3).1.length 0)))):=rfl
  rw [hF];have hfl:(Rul.q07 al.2.1 x.1 3).1.length≤1000000:=read_few al.2.1 x.1 3;have hnl:(Rul.q07 al.2.1 x.2.2.1 10).1.length≤1000000:=read_few al.2.1 x.2.2.1 10;generalize Rul.q07 al.2.1 x.1 3=F at hfl ⊢;generalize Rul.q07 al.2.1 x.2.2.1 10=G at hnl ⊢;obtain ⟨fl,fb⟩:=F;obtain ⟨nx,nb⟩:=G;dsimp only at hfl hnl ⊢;have e1:((a:Int)+(fl.length:Int)).toNat=a+fl.length:=by omega
  rw [e1,Rul.drop_take_eq,Rul.drop_getD,Qj];refine ⟨⟨hp,Qh hT.1 (by decide)⟩,⟨hp,Qh hT.2.2 (by decide)⟩,by omega,bifP (λc1=>?_) λc1=>⟨by omega,by have:=of_decide_eq_false c1;omega,⟨by omega,by simp only [QE,Qj];omega⟩,bifP (λc2=>?_) λc2=>⟨by omega,bifP (λc3=>?_) λc3=>bifP (λc4=>?_) λc4=>⟨⟨0,⟨Qe _,λ_=>rfl⟩,rfl⟩,?_⟩⟩⟩⟩
  · have:=of_decide_eq_true c1
    rw [decide_eq_false (by omega)];rfl
  · rw [show (fl==(w.drop a).take fl.length)=false from cast (Qb _) c2,Qn,Qd]
  all_goals have c1':=of_decide_eq_false c1
  all_goals rw [decide_eq_true (show fl.length≤w.length-a by omega),show (fl==(w.drop a).take fl.length)=true from cast (Q7 _) c2]
  · rw [if_pos c3,Qi,Qi,Bool.eq_iff_iff,beq_iff_eq,beq_iff_eq];omega
  all_goals rw [if_neg (show ¬ x.2.2.2=true by rw [c3];decide)]
  · have:nx=[]:=List.eq_nil_of_length_eq_zero (by have:=eq_of_beq c4;omega)
    rw [if_pos this];rfl
  have hne:nx≠[]:=λe=>by rw [e] at c4;cases c4
  rw [if_neg hne,Qi,Qi];rintro k ⟨hk,hc⟩;refine bifP (λhb=>bifP (λhb2=>?_) λhb2=>?_) λhb=>?_
  · have hkl:k<nx.length:=by have:=of_decide_eq_true hb;omega
    have hel:a+fl.length<w.length:=by have:=of_decide_eq_true hb2;omega
    have hc:=hc hel;rw [decide_eq_true (show fl.length<w.length-a by omega),Qi]
    refine ⟨by omega,by omega,bifP (λc5=>?_) λc5=>⟨by omega,k+1,⟨by omega,λ_=>?_⟩,by omega,by omega⟩⟩
    · symm
      rw [Qy,← eq_of_beq c5];exact Snd.q5y nx 0 k hkl
    · rw [← QD,Qy] at hc ⊢
      rw [Snd.q70 nx 0 k hkl,List.mem_append];rintro (h | h)
      · exact hc h
      · rw [Qk.1 h,beq_self_eq_true] at c5;cases c5
  · have:=of_decide_eq_false hb2
    rw [decide_eq_false (by omega)];rfl
  · have hke:k=nx.length:=by have:=of_decide_eq_false hb;omega
    subst hke;rw [Qs] at hc;by_cases hel:a+fl.length<w.length
    · rw [hc hel,Qd]
    · rw [decide_eq_false (by omega)];rfl
set_option maxRecDepth 100000 in
theorem gText_vc (r:Rul.q11) (h:gText.pre r) :
    FewR r∧bif !Rul.q04 r then ([],(1:Int))=Rul.q56 r else [(114:UInt8),(117:UInt8),(108:UInt8),(101:UInt8),(115:UInt8),(32:UInt8)].length+r.1.length ≤
    (9223372036854775807:Nat)∧([(114:UInt8),(117:UInt8),(108:UInt8),(101:UInt8),(115:UInt8),(32:UInt8)]++r.1).length+[(32:UInt8),(116:UInt8),(111:UInt8),(32 :
    UInt8)].length≤(9223372036854775807:Nat)∧([(114:UInt8),(117:UInt8),(108:UInt8),(101:UInt8),(115:UInt8),(32:UInt8)]++r.1++[(32:UInt8),(116:UInt8),(111 :
    UInt8),(32:UInt8)]).length+r.2.1.length≤(9223372036854775807:Nat)∧([(114:UInt8),(117:UInt8),(108:UInt8),(101:UInt8),(115:UInt8),(32:UInt8)]++r.1++[(32 :
    UInt8),(116:UInt8),(111:UInt8),(32:UInt8)]++r.2.1).length+[(59:UInt8),(10:UInt8)].length≤(9223372036854775807:Nat)∧(∃ (p':Nat),p'≤r.2.2.length∧([(114:UInt8),
    (117:UInt8),(108:UInt8),(101:UInt8),(115:UInt8),(32:UInt8)]++r.1++[(32:UInt8),(116:UInt8),(111:UInt8),(32:UInt8)]++r.2.1++[(59:UInt8),(10:UInt8)] =
    q2a r++Q9 Rul.q0b (Q0 p' r.2.2)∧(0:Int)=(p':Int)∧True∧True)∧((r.1=r.1∧r.2.1=r.2.1∧r.2.2=r.2.2∧True)∧True)∧True∧True∧True∧True ∧
    True∧True∧True∧True)∧∀ (p:Nat),p≤r.2.2.length→bif decide ((p:Int)<(r.2.2.length:Int)) then ((0:Int)≤(p:Int)∧(p:Int)<(r.2.2.length:Int))∧(q2a r ++
    Q9 Rul.q0b (Q0 p r.2.2)).length+[(34:UInt8)].length≤(9223372036854775807:Nat)∧(q2a r++Q9 Rul.q0b (Q0 p r.2.2)++[(34:UInt8)]).length +
    (r.2.2.getD (p:Int).toNat ([],[],[],false)).1.length≤(9223372036854775807:Nat)∧(q2a r++Q9 Rul.q0b (Q0 p r.2.2)++[(34:UInt8)]++(r.2.2.getD (↑p :
    Int).toNat ([],[],[],false)).1).length+[(34:UInt8),(32:UInt8),(116:UInt8),(111:UInt8),(32:UInt8),(34:UInt8)].length≤(9223372036854775807:Nat)∧(q2a r ++
    Q9 Rul.q0b (Q0 p r.2.2)++[(34:UInt8)]++(r.2.2.getD (p:Int).toNat ([],[],[],false)).1++[(34:UInt8),(32:UInt8),(116:UInt8),(111:UInt8),(32 :
    UInt8),(34:UInt8)]).length+(r.2.2.getD (p:Int).toNat ([],[],[],false)).2.1.length≤(9223372036854775807:Nat)∧(q2a r++Q9 Rul.q0b (Q0 p r.2.2)++[(34 :
    UInt8)]++(r.2.2.getD (p:Int).toNat ([],[],[],false)).1++[(34:UInt8),(32:UInt8),(116:UInt8),(111:UInt8),(32:UInt8),(34:UInt8)]++(r.2.2.getD (p:Int).toNat ([],
    [],[],false)).2.1).length+[(34:UInt8)].length≤(9223372036854775807:Nat)∧bif !(r.2.2.getD (p:Int).toNat ([],[],[],false)).2.2.1==[] then (q2a r++Q9 Rul.q0b
    (Q0 p r.2.2)++[(34:UInt8)]++(r.2.2.getD (p:Int).toNat ([],[],[],false)).1++[(34:UInt8),(32:UInt8),(116:UInt8),(111:UInt8),(32:UInt8),(34:UInt8)] ++
    (r.2.2.getD (p:Int).toNat ([],[],[],false)).2.1++[(34:UInt8)]).length+[(32:UInt8),(98:UInt8),(101:UInt8),(102:UInt8),(111:UInt8),(114:UInt8),(101:UInt8),(32
    : UInt8),(34:UInt8)].length≤(9223372036854775807:Nat)∧(q2a r++Q9 Rul.q0b (Q0 p r.2.2)++[(34:UInt8)]++(r.2.2.getD (p:Int).toNat ([],[],[],false)).1
    ++ [(34:UInt8),(32:UInt8),(116:UInt8),(111:UInt8),(32:UInt8),(34:UInt8)]++(r.2.2.getD (p:Int).toNat ([],[],[],false)).2.1++[(34:UInt8)]++[(32:UInt8),(98 :
    UInt8),(101:UInt8),(102:UInt8),(111:UInt8),(114:UInt8),(101:UInt8),(32:UInt8),(34:UInt8)]).length+(r.2.2.getD (p:Int).toNat ([],[],[],false)).2.2.1.length ≤
    (9223372036854775807:Nat)∧(q2a r++Q9 Rul.q0b (Q0 p r.2.2)++[(34:UInt8)]++(r.2.2.getD (p:Int).toNat ([],[],[],false)).1++[(34:UInt8),(32:UInt8),
    (116:UInt8),(111:UInt8),(32:UInt8),(34:UInt8)]++(r.2.2.getD (p:Int).toNat ([],[],[],false)).2.1++[(34:UInt8)]++[(32:UInt8),(98:UInt8),(101:UInt8),(102 :
    UInt8),(111:UInt8),(114:UInt8),(101:UInt8),(32:UInt8),(34:UInt8)]++(r.2.2.getD (p:Int).toNat ([],[],[],false)).2.2.1).length+[(34:UInt8)].length ≤
    (9223372036854775807:Nat)∧bif (r.2.2.getD (p:Int).toNat ([],[],[],false)).2.2.2 then (q2a r++Q9 Rul.q0b (Q0 p r.2.2)++[(34:UInt8)]++(r.2.2.getD (↑p :
    Int).toNat ([],[],[],false)).1++[(34:UInt8),(32:UInt8),(116:UInt8),(111:UInt8),(32:UInt8),(34:UInt8)]++(r.2.2.getD (p:Int).toNat ([],[],[],false)).2.1++[(34 :
    UInt8)]++[(32:UInt8),(98:UInt8),(101:UInt8),(102:UInt8),(111:UInt8),(114:UInt8),(101:UInt8),(32:UInt8),(34:UInt8)]++(r.2.2.getD (p:Int).toNat ([],[],[],
    false)).2.2.1++[(34:UInt8)]).length+[(32:UInt8),(97:UInt8),(116:UInt8),(32:UInt8),(101:UInt8),(110:UInt8),(100:UInt8)].length≤(9223372036854775807:Nat)∧(q2a
    r++Q9 Rul.q0b (Q0 p r.2.2)++[(34:UInt8)]++(r.2.2.getD (p:Int).toNat ([],[],[],false)).1++[(34:UInt8),(32:UInt8),(116:UInt8),(111:UInt8),(32 :
    UInt8),(34:UInt8)]++(r.2.2.getD (p:Int).toNat ([],[],[],false)).2.1++[(34:UInt8)]++[(32:UInt8),(98:UInt8),(101:UInt8),(102:UInt8),(111:UInt8),(114:UInt8),
    (101:UInt8),(32:UInt8),(34:UInt8)]++(r.2.2.getD (p:Int).toNat ([],[],[],false)).2.2.1++[(34:UInt8)]++[(32:UInt8),(97:UInt8),(116:UInt8),(32:UInt8),(101 :
    UInt8),(110:UInt8),(100:UInt8)]).length+[(59:UInt8),(10:UInt8)].length≤(9223372036854775807:Nat)∧((-9223372036854775808:Int)≤(p:Int)+(1:Int)∧(p:Int)+(1 :
    Int)≤(9223372036854775807:Int))∧∃ (p':Nat),p'≤r.2.2.length∧r.2.2.length-p'<r.2.2.length-p∧(q2a r++Q9 Rul.q0b (Q0 p r.2.2)++[(34:UInt8)] ++
    (r.2.2.getD (p:Int).toNat ([],[],[],false)).1++[(34:UInt8),(32:UInt8),(116:UInt8),(111:UInt8),(32:UInt8),(34:UInt8)]++(r.2.2.getD (p:Int).toNat ([],[],[],
    false)).2.1++[(34:UInt8)]++[(32:UInt8),(98:UInt8),(101:UInt8),(102:UInt8),(111:UInt8),(114:UInt8),(101:UInt8),(32:UInt8),(34:UInt8)]++(r.2.2.getD (↑p :
    Int).toNat ([],[],[],false)).2.2.1++[(34:UInt8)]++[(32:UInt8),(97:UInt8),(116:UInt8),(32:UInt8),(101:UInt8),(110:UInt8),(100:UInt8)]++[(59:UInt8),(10 :
    UInt8)]=q2a r++Q9 Rul.q0b (Q0 p' r.2.2)∧(p:Int)+(1:Int)=(p':Int)∧True∧True)∧((r.1=r.1∧r.2.1=r.2.1∧r.2.2=r.2.2∧True)∧True)∧True ∧
    True∧True∧True∧True∧True∧True∧True else (q2a r++Q9 Rul.q0b (Q0 p r.2.2)++[(34:UInt8)]++(r.2.2.getD (p:Int).toNat ([],[],[],false)).1++[(34 :
    UInt8),(32:UInt8),(116:UInt8),(111:UInt8),(32:UInt8),(34:UInt8)]++(r.2.2.getD (p:Int).toNat ([],[],[],false)).2.1++[(34:UInt8)]++[(32:UInt8),(98:UInt8),
    (101:UInt8),(102:UInt8),(111:UInt8),(114:UInt8),(101:UInt8),(32:UInt8),(34:UInt8)]++(r.2.2.getD (p:Int).toNat ([],[],[],false)).2.2.1++[(34:UInt8)]).length +
    [(59:UInt8),(10:UInt8)].length≤(9223372036854775807:Nat)∧((-9223372036854775808:Int)≤(p:Int)+(1:Int)∧(p:Int)+(1:Int)≤(9223372036854775807:Int))∧∃ (p' :
    Nat),p'≤r.2.2.length∧r.2.2.length-p'<r.2.2.length-p∧(q2a r++Q9 Rul.q0b (Q0 p r.2.2)++[(34:UInt8)]++(r.2.2.getD (p:Int).toNat ([],[],[],
    false)).1++[(34:UInt8),(32:UInt8),(116:UInt8),(111:UInt8),(32:UInt8),(34:UInt8)]++(r.2.2.getD (p:Int).toNat ([],[],[],false)).2.1++[(34:UInt8)]++[(32 :
    UInt8),(98:UInt8),(101:UInt8),(102:UInt8),(111:UInt8),(114:UInt8),(101:UInt8),(32:UInt8),(34:UInt8)]++(r.2.2.getD (p:Int).toNat ([],[],[],false)).2.2.1 ++
    [(34:UInt8)]++[(59:UInt8),(10:UInt8)]=q2a r++Q9 Rul.q0b (Q0 p' r.2.2)∧(p:Int)+(1:Int)=(p':Int)∧True∧True)∧((r.1=r.1∧r.2.1=r.2.1 ∧
    r.2.2=r.2.2∧True)∧True)∧True∧True∧True∧True∧True∧True∧True∧True else bif (r.2.2.getD (p:Int).toNat ([],[],[],false)).2.2.2 then (q2a r++Q9 Rul.q0b
    (Q0 p r.2.2)++[(34:UInt8)]++(r.2.2.getD (p:Int).toNat ([],[],[],false)).1++[(34:UInt8),(32:UInt8),(116:UInt8),(111:UInt8),(32:UInt8),(34:UInt8)] ++
    (r.2.2.getD (p:Int).toNat ([],[],[],false)).2.1++[(34:UInt8)]).length+[(32:UInt8),(97:UInt8),(116:UInt8),(32:UInt8),(101:UInt8),(110:UInt8),(100 :
    UInt8)].length≤(9223372036854775807:Nat)∧(q2a r++Q9 Rul.q0b (Q0 p r.2.2)++[(34:UInt8)]++(r.2.2.getD (p:Int).toNat ([],[],[],false)).1++[(34 :
    UInt8),(32:UInt8),(116:UInt8),(111:UInt8),(32:UInt8),(34:UInt8)]++(r.2.2.getD (p:Int).toNat ([],[],[],false)).2.1++[(34:UInt8)]++[(32:UInt8),(97:UInt8),
    (116:UInt8),(32:UInt8),(101:UInt8),(110:UInt8),(100:UInt8)]).length+[(59:UInt8),(10:UInt8)].length≤(9223372036854775807:Nat)∧((-9223372036854775808:Int)≤(↑p :
    Int)+(1:Int)∧(p:Int)+(1:Int)≤(9223372036854775807:Int))∧∃ (p':Nat),p'≤r.2.2.length∧r.2.2.length-p'<r.2.2.length-p∧(q2a r++Q9 Rul.q0b
    (Q0 p r.2.2)++[(34:UInt8)]++(r.2.2.getD (p:Int).toNat ([],[],[],false)).1++[(34:UInt8),(32:UInt8),(116:UInt8),(111:UInt8),(32:UInt8),(34:UInt8)] ++
    (r.2.2.getD (p:Int).toNat ([],[],[],false)).2.1++[(34:UInt8)]++[(32:UInt8),(97:UInt8),(116:UInt8),(32:UInt8),(101:UInt8),(110:UInt8),(100:UInt8)]++[(59 :
    UInt8),(10:UInt8)]=q2a r++Q9 Rul.q0b (Q0 p' r.2.2)∧(p:Int)+(1:Int)=(p':Int)∧True∧True)∧((r.1=r.1∧r.2.1=r.2.1∧r.2.2=r.2.2∧True) ∧
    True)∧True∧True∧True∧True∧True∧True∧True∧True else (q2a r++Q9 Rul.q0b (Q0 p r.2.2)++[(34:UInt8)]++(r.2.2.getD (p:Int).toNat ([],[],[],
    false)).1++[(34:UInt8),(32:UInt8),(116:UInt8),(111:UInt8),(32:UInt8),(34:UInt8)]++(r.2.2.getD (p:Int).toNat ([],[],[],false)).2.1++[(34:UInt8)]).length+[(59
    : UInt8),(10:UInt8)].length≤(9223372036854775807:Nat)∧((-9223372036854775808:Int)≤(p:Int)+(1:Int)∧(p:Int)+(1:Int)≤(9223372036854775807:Int))∧∃ (p':Nat),
    p'≤r.2.2.length∧r.2.2.length-p'<r.2.2.length-p∧(q2a r++Q9 Rul.q0b (Q0 p r.2.2)++[(34:UInt8)]++(r.2.2.getD (p:Int).toNat ([],[],[],false)).1 ++
    [(34:UInt8),(32:UInt8),(116:UInt8),(111:UInt8),(32:UInt8),(34:UInt8)]++(r.2.2.getD (p:Int).toNat ([],[],[],false)).2.1++[(34:UInt8)]++[(59:UInt8),(10 :
    UInt8)]=q2a r++Q9 Rul.q0b (Q0 p' r.2.2)∧(p:Int)+(1:Int)=(p':Int)∧True∧True)∧((r.1=r.1∧r.2.1=r.2.1∧r.2.2=r.2.2∧True)∧True)∧True ∧
    True∧True∧True∧True∧True∧True∧True else (q2a r++Q9 Rul.q0b (Q0 p r.2.2),(0:Int))=Rul.q56 r
     := by
  obtain ⟨h1,h2,hl,hx⟩:=h;have h1:r.1.length≤1000:=h1;have h2:r.2.1.length≤1000:=h2;have hl:r.2.2.length≤1000:=hl;simp only [true_and,and_true,eq_self,and_self];refine ⟨⟨h1,h2,hl,hx⟩,bifP (λc1=>?_) λc1=>?_⟩
  · unfold Rul.q56;rw [cast (Qb _) c1];rfl
  have hfm:=cast (Q7 _) c1;have hlen:=text_few r.2.2 hx;have hhd:(q2a r).length≤3000:=by unfold q2a;simp only [Q3,Q8,Qa];omega
  refine ⟨by simp only [Q3,Q8,Qa];omega,by simp only [Q3,Q8,Qa];omega,by simp only [Q3,Q8,Qa];omega,by simp only [Q3,Q8,Qa];omega,⟨0,Qe _,by unfold q2a;simp,rfl⟩,λk hk=>bifP (λhb=>?_) λhb=>?_⟩
  · have hkl:k<r.2.2.length:=by have:=of_decide_eq_true hb;omega
    simp only [Qm];obtain ⟨t1,t2,t3⟩:=hx _ (Snd.q5y r.2.2 q0n k hkl);have hok:=Qr.1 (Rul.q5f.1 hfm).2.2.2.2.1 _ (Snd.q5y r.2.2 q0n k hkl);have hend:=(Rul.qbw.1 hok).2.2.2;have hs:=Snd.q70 r.2.2 q0n k hkl;have hL:=hlen k hk;have fin:∀ m:List UInt8,m=Rul.q0b (r.2.2.getD k q0n)→((-9223372036854775808:Int)≤(k:Int)+1∧(k:Int)+1≤9223372036854775807)∧∃ p':Nat,p'≤r.2.2.length∧r.2.2.length-p'<r.2.2.length-k∧(q2a r++(r.2.2.take k).flatMap Rul.q0b++m=q2a r++(r.2.2.take p').flatMap Rul.q0b∧(k:Int)+1=(p':Int)):=λm hm =>
      ⟨by omega,k+1,hkl,by omega,by rw [hs,Qz,hm,Qp];simp,by omega⟩
    have hTl:(q2a r++(r.2.2.take k).flatMap Rul.q0b).length≤3000+k*4000:=by rw [Q3];omega
    generalize q2a r++(r.2.2.take k).flatMap Rul.q0b=T at *
    clear hlen hhd hs;generalize r.2.2.getD k q0n=x at *
    obtain ⟨x1,x2,x3,x4⟩:=x;have t1:x1.length≤1000:=t1;have t2:x2.length≤1000:=t2;have t3:x3.length≤1000:=t3;have hend:x4=true→x3=[]:=hend;dsimp only;have hT2:T.length≤10000000:=by omega
    refine ⟨by omega,by simp only [Q3,Q8,Qa];omega,by simp only [Q3,Q8,Qa];omega,by simp only [Q3,Q8,Qa];omega,by simp only [Q3,Q8,Qa];omega,by simp only [Q3,Q8,Qa];omega,bifP (λc2=>⟨by simp only [Q3,Q8,Qa];omega,by simp only [Q3,Q8,Qa];omega,by simp only [Q3,Q8,Qa];omega,bifP (λc3=>?_) λc3=>⟨by simp only [Q3,Q8,Qa];omega,?_⟩⟩) λc2=>bifP (λc3=>⟨by simp only [Q3,Q8,Qa];omega,by simp only [Q3,Q8,Qa];omega,?_⟩) λc3=>⟨by simp only [Q3,Q8,Qa];omega,?_⟩⟩
    · rw [hend c3] at c2;cases c2
    · have hne:x3≠[]:=λe=>by rw [e] at c2;cases c2
      have f:=fin ([34]++x1++[34]++[32,116,111,32]++([34]++x2++[34])++([32,98,101,102,111,114,101,32]++([34]++x3++[34]))++[59,10]) (by unfold Rul.q0b Rul.quo;rw [if_neg (show ¬ ((x1,x2,x3,x4):Rul.Rule).2.2.2=true by show ¬ x4=true;rw [c3];decide),if_neg (show ¬ ((x1,x2,x3,x4):Rul.Rule).2.2.1=[] from hne)])
      simp only [Qp,Qv,Qw] at f ⊢;exact f
    · have f:=fin ([34]++x1++[34]++[32,116,111,32]++([34]++x2++[34])++[32,97,116,32,101,110,100]++[59,10]) (by unfold Rul.q0b Rul.quo;rw [if_pos (show ((x1,x2,x3,x4):Rul.Rule).2.2.2=true from c3)])
      simp only [Qp,Qv,Qw] at f ⊢;exact f
    · have hne:x3=[]:=eq_of_beq (cast (Q7 _) c2)
      have f:=fin ([34]++x1++[34]++[32,116,111,32]++([34]++x2++[34])++[]++[59,10]) (by unfold Rul.q0b Rul.quo;rw [if_neg (show ¬ ((x1,x2,x3,x4):Rul.Rule).2.2.2=true by show ¬ x4=true;rw [c3];decide),if_pos (show ((x1,x2,x3,x4):Rul.Rule).2.2.1=[] from hne)])
      simp only [Qp,Qv,Qw] at f ⊢;exact f
  · rw [Qq (by have:=of_decide_eq_false hb;omega)]
    unfold Rul.q56 Rul.textL q2a;rw [if_pos hfm]
set_option maxRecDepth 100000 in
theorem letters_vcG (nm:List UInt8) (ls:List (List UInt8)) (sm:List Int) (s:List UInt8) (h:qgz.pre ((nm,ls,sm),s)) :
    bif s==[] then ([],(6:Int),(0:Int))=Al.q0m ls s else (∃ (p':List Int×Nat),(p'.2≤s.length∧p'.1.length≤(24:Nat)∧∃ (p'_1:Nat),(Qc p'.2 s).length<p'_1 ∧
    Al.q0m ls s=Al.collect p'.1 (Al.places ls p'_1 p'.2 (Qc p'.2 s)))∧(True∧(0:Int)=(p'.2:Int)∧s=s∧True∧True)∧((nm=nm∧ls=ls∧sm=sm∧True)∧True) ∧
    (p'.1=[]∧True)∧True∧True∧True∧True∧True∧True∧True)∧∀ (p:List Int×Nat),(p.2≤s.length∧p.1.length≤(24:Nat)∧∃ (p':Nat),(Qc p.2 s).length<p' ∧
    Al.q0m ls s=Al.collect p.1 (Al.places ls p' p.2 (Qc p.2 s)))→bif decide ((p.2:Int)<(s.length:Int)) then (FewP (nm,ls,sm)∧(0:Int)≤(p.2:Int)∧(p.2:Int) ≤
    (s.length:Int)∧s.length≤(1000000:Nat))∧bif decide (Al.best ls (Qc (p.2:Int).toNat s) ls.length<(0:Int)) then ([],(3:Int),(p.2:Int))=Al.q0m ls s else bif
    (p.1.length:Int)==(24:Int) then ([],(2:Int),(p.2:Int))=Al.q0m ls s else (p.1.length+[Al.best ls (Qc (p.2:Int).toNat s) ls.length].length)*(8:Nat) ≤
    (140737488355328:Nat)∧((0:Int)≤Al.best ls (Qc (p.2:Int).toNat s) ls.length∧Al.best ls (Qc (p.2:Int).toNat s) ls.length<(ls.length:Int)) ∧
    ((-9223372036854775808:Int)≤(p.2:Int)+(↑(ls.getD (Al.best ls (Qc (p.2:Int).toNat s) ls.length).toNat []).length:Int)∧(p.2:Int)+(↑(ls.getD (Al.best ls (Qc
    (p.2:Int).toNat s) ls.length).toNat []).length:Int)≤(9223372036854775807:Int))∧∃ (p':List Int×Nat),(p'.2≤s.length∧p'.1.length≤(24:Nat)∧∃ (p'_1:Nat),(Qc
    p'.2 s).length<p'_1∧Al.q0m ls s=Al.collect p'.1 (Al.places ls p'_1 p'.2 (Qc p'.2 s)))∧s.length-p'.2<s.length-p.2∧(True∧(p.2:Int)+(↑(ls.getD (Al.best ls
    (Qc (p.2:Int).toNat s) ls.length).toNat []).length:Int)=(p'.2:Int)∧s=s∧True∧True)∧((nm=nm∧ls=ls∧sm=sm∧True)∧True)∧(p.1++[Al.best ls (Qc
    (p.2:Int).toNat s) ls.length]=p'.1∧True)∧True∧True∧True∧True∧True∧True∧True else (p.1,(0:Int),(0:Int))=Al.q0m ls s
     := by
  obtain ⟨⟨hfew,hf⟩,hs⟩:=h;have h70:ls.length≤70:=hfew.1;have hs:s.length≤1000000:=hs;have hlet:∀ l∈ls,1≤l.length∧l.length≤3:=Al.q5r hf;have hnt:Al.q1p ls=true:=Al.q9e hf;have hbest:∀ s',Al.best ls s' ls.length=Al.atR ls s':=Al.best_all hlet hnt;simp only [true_and,and_true];refine bifP (λhb=>?_) λhs0=>?_
  · have hb:s=[]:=by simpa using hb
    subst hb;rfl
  have hs0:s≠[]:=by simpa using hs0
  have hrd:Al.q0m ls s=Al.collect [] (Al.places ls (s.length+1) 0 s):=by unfold Al.q0m;rw [if_neg hs0]
  refine ⟨⟨([],0),⟨Qe _,Qe _,s.length+1,by show s.length<_;omega,hrd⟩,rfl,rfl⟩,?_⟩
  rintro ⟨out,i⟩ ⟨hi,ho,f,hfu,hr⟩;have hi:i≤s.length:=hi;have ho:out.length≤24:=ho;have hfu:(s.drop i).length<f:=hfu;have hr:Al.q0m ls s=Al.collect out (Al.places ls f i (s.drop i)):=hr;show bif decide ((i:Int)<(s.length:Int)) then _ else _
  have hti:((i:Int).toNat)=i:=rfl;refine bifP (λhb=>?_) λhb=>?_
  · have hil:i<s.length:=by have:=of_decide_eq_true hb;omega
    rw [Qj] at hfu;obtain ⟨g,rfl⟩:∃ g,f=g+1:=⟨f-1,by omega⟩
    obtain ⟨c,r,hcr⟩:∃ c r,s.drop i=c::r:=by
      cases h:s.drop i with
      | nil=>have:=congrArg Ql h;rw [Qj] at this;simp at this;omega
      | cons c r=>exact ⟨c,r,rfl⟩
    show (FewP (nm,ls,sm)∧(0:Int)≤(i:Int)∧(i:Int)≤(s.length:Int)∧s.length≤1000000)∧_;simp only [hti,hbest];have hat:Al.atR ls (s.drop i)=match Al.first ls (s.drop i) with | none=>-1 | some (k,_)=>k:=rfl
    refine ⟨⟨hfew,by omega,by omega,hs⟩,?_⟩
    cases hfi:Al.first ls (s.drop i) with
    | none =>
      rw [hfi] at hat;rw [show Al.atR ls (s.drop i)=-1 from hat];show ([],(3:Int),(i:Int))=Al.q0m ls s;rw [hr,hcr];rw [hcr] at hfi;unfold Al.places;simp only [hfi];rfl
    | some km =>
      obtain ⟨k,m⟩:=km;rw [hfi] at hat;rw [show Al.atR ls (s.drop i)=(k:Int) from hat];obtain ⟨m1,m3,ml,mc,mk,_⟩:=Al.qke hfi;have hk:k<ls.length:=by rw [mk];exact Al.idx_lt mc
      have hg:ls.getD k []=(s.drop i).take m:=by rw [mk,Qf,Al.q4t mc];rfl
      have hlen:(ls.getD ((k:Int).toNat) []).length=m:=by show (ls.getD k []).length=m;rw [hg,QE];omega
      rw [Qj] at ml;have hpl:Al.places ls (g+1) i (s.drop i)=(i,(k:Int))::Al.places ls g (i+m) (s.drop (i+m)):=by
        rw [← List.drop_drop,hcr];rw [hcr] at hfi
        conv=>lhs;unfold Al.places
        simp only [hfi]
      rw [hpl] at hr;have hco:Al.collect out ((i,(k:Int))::Al.places ls g (i+m) (s.drop (i+m)))=if (k:Int)<0 then ([],3,(i:Int)) else if out.length=24 then ([],2,(i:Int)) else Al.collect (out++[(k:Int)]) (Al.places ls g (i+m) (s.drop (i+m))):=rfl
      rw [if_neg (by omega)] at hco
      rw [decide_eq_false (by omega:¬ (k:Int)<0)]
      show bif (out.length:Int)==24 then ([],(2:Int),(i:Int))=Al.q0m ls s else _
      refine bifP (λh24=>?_) λh24=>?_
      · have h24:out.length=24:=by have:=beq_iff_eq.1 h24;omega
        rw [hr,hco,if_pos h24]
      have h24:out.length≠24:=by have:=beq_eq_false_iff_ne.1 h24;omega
      rw [if_neg h24] at hco;rw [hlen];refine ⟨by show (out.length+1)*8≤_;omega,⟨by omega,by omega⟩,⟨by show _≤(i:Int)+_;omega,by show (i:Int)+_≤_;omega⟩,(out++[(k:Int)],i+m),⟨by show i+m≤_;omega,by rw [Q3];show out.length+1≤24;omega,g,by rw [Qj];show s.length-(i+m)<g;omega,hr.trans hco⟩,by show s.length-(i+m)<s.length-i;omega,by show (i:Int)+m=((i+m:Nat):Int);omega,rfl⟩
  · have hpl:i=s.length:=by have:=of_decide_eq_false hb;omega
    subst hpl;rw [hr,List.drop_length];cases f with
    | zero=>rfl
    | succ f=>rfl
set_option maxRecDepth 100000 in
theorem qe0:qgz.Holds Tryz.prog:=by
 refine q20 (cons:=[cAtG]) Tryz.func25 (by kernel_rfl) (by kernel_rfl) mixed (by kernel_rfl) (λc h=>by obtain rfl:=Qk.1 h;exact at_holdsG) (λp=>anLettersG p.1.2.1 p.2) λp hp=>?_
 obtain ⟨⟨nm,ls,sm⟩,s⟩:=p;refine cast ?_ (letters_vcG nm ls sm s hp)
 kernel_rfl
set_option maxRecDepth 100000 in
theorem texts_vc (a b:List (List UInt8)) (h:cTexts.pre (a,b)) :
    bif (a.length:Int) != (b.length:Int) then false=(a==b) else (∃ (p':Nat),(p'≤a.length∧Q0 p' a=Q0 p' b)∧((0:Int)=(p':Int)∧a=a∧b=b∧True) ∧
    True∧True∧True∧True∧True∧True∧True∧True∧True)∧∀ (p:Nat),p≤a.length∧Q0 p a=Q0 p b→bif decide ((p:Int)<(a.length:Int)) then ((0:Int)≤(↑p
    : Int)∧(p:Int)<(a.length:Int))∧((0:Int)≤(p:Int)∧(p:Int)<(b.length:Int))∧bif !a.getD (p:Int).toNat []==b.getD (p:Int).toNat [] then false=(a==b)
    else ((-9223372036854775808:Int)≤(p:Int)+(1:Int)∧(p:Int)+(1:Int)≤(9223372036854775807:Int))∧∃ (p':Nat),(p'≤a.length∧Q0 p' a=Q0 p' b) ∧
    a.length-p'<a.length-p∧((p:Int)+(1:Int)=(p':Int)∧a=a∧b=b∧True)∧True∧True∧True∧True∧True∧True∧True∧True∧True else true=(a==b)
     := by
  simp only [true_and,and_true];exact qgn [] a b (Qh h.1 (by omega)) _ (λe=>e.symm) _ (λe=>e.symm)
set_option maxRecDepth 100000 in
theorem same_vc (a1 a2 b1 b2:List UInt8) (a b:List Rul.Rule) (h:cSame.pre ((a1,a2,a),b1,b2,b)) :
    bif !a1==b1 then false=(a1==b1&&(a2==b2&&a==b)) else bif !a2==b2 then false=(a1==b1&&(a2==b2&&a==b)) else bif (a.length:Int) != (b.length:Int) then false =
    (a1==b1&&(a2==b2&&a==b)) else (∃ (p':Nat),(p'≤a.length∧Q0 p' a=Q0 p' b)∧((0:Int)=(p':Int)∧True∧True∧True)∧((b1=b1∧b2=b2∧b=b ∧
    True)∧(a1=a1∧a2=a2∧a=a∧True)∧True)∧True∧True∧True∧True∧True∧True∧True∧True)∧∀ (p:Nat),p≤a.length∧Q0 p a=Q0 p b→bif decide ((↑p :
    Int)<(a.length:Int)) then ((0:Int)≤(p:Int)∧(p:Int)<(a.length:Int))∧((0:Int)≤(p:Int)∧(p:Int)<(b.length:Int))∧bif !((a.getD (p:Int).toNat ([],[],
    [],false)).1==(b.getD (p:Int).toNat ([],[],[],false)).1&&((a.getD (p:Int).toNat ([],[],[],false)).2.1==(b.getD (p:Int).toNat ([],[],[],false)).2.1&&((a.getD (↑p :
    Int).toNat ([],[],[],false)).2.2.1==(b.getD (p:Int).toNat ([],[],[],false)).2.2.1&&((a.getD (p:Int).toNat ([],[],[],false)).2.2.2==(b.getD (p:Int).toNat ([],[],[],
    false)).2.2.2&&true)))) then false=(a1==b1&&(a2==b2&&a==b)) else ((-9223372036854775808:Int)≤(p:Int)+(1:Int)∧(p:Int)+(1:Int)≤(9223372036854775807:Int))
    ∧ ∃ (p':Nat),(p'≤a.length∧Q0 p' a=Q0 p' b)∧a.length-p'<a.length-p∧((p:Int)+(1:Int)=(p':Int)∧True∧True∧True)∧((b1=b1∧b2=b2∧b=b ∧
    True)∧(a1=a1∧a2=a2∧a=a∧True)∧True)∧True∧True∧True∧True∧True∧True∧True∧True else true=(a1==b1&&(a2==b2&&a==b))
     := by
  simp only [true_and,and_true];refine bifP (λh1=>?_) λh1=>bifP (λh2=>?_) λh2=>?_
  · rw [show (a1==b1)=false by simpa using h1];rfl
  · rw [show (a1==b1)=true by simpa using h1,show (a2==b2)=false by simpa using h2];rfl
  · have e1:(a1==b1)=true:=by simpa using h1
    have e2:(a2==b2)=true:=by simpa using h2
    have h:a.length≤1000000000:=h.1;simp only [Bool.and_true];exact qgn ([],[],[],false) a b (by omega) _ (λe=>by rw [e1,e2,e];rfl) _ (λe=>by rw [e1,e2,e];rfl)
set_option maxRecDepth 100000 in
theorem few_vc (r1 r2:List UInt8) (l:List Rul.Rule) (h:cFewR.pre (r1,r2,l)) :
    (∃ (p':Nat),(p'≤l.length∧p'≤(90:Nat)∧(Q0 p' l).all q5t=true)∧((0:Int)=(p':Int)∧True∧True)∧((r1=r1∧r2=r2∧l=l∧True)∧True)∧True∧True ∧
    True∧True∧True∧True∧True∧True)∧∀ (p:Nat),p≤l.length∧p≤(90:Nat)∧(Q0 p l).all q5t=true→bif decide ((p:Int)<(l.length:Int)) then bif decide ((↑p
    : Int)<(90:Int)) then ((0:Int)≤(p:Int)∧(p:Int)<(l.length:Int))∧bif decide ((60:Int)<(↑(l.getD (p:Int).toNat ([],[],[],false)).1.length:Int)) then false =
    q2p (r1,r2,l) else ((0:Int)≤(p:Int)∧(p:Int)<(l.length:Int))∧bif decide ((60:Int)<(↑(l.getD (p:Int).toNat ([],[],[],false)).2.1.length:Int)) then false =
    q2p (r1,r2,l) else ((0:Int)≤(p:Int)∧(p:Int)<(l.length:Int))∧bif decide ((60:Int)<(↑(l.getD (p:Int).toNat ([],[],[],false)).2.2.1.length:Int)) then false =
    q2p (r1,r2,l) else ((-9223372036854775808:Int)≤(p:Int)+(1:Int)∧(p:Int)+(1:Int)≤(9223372036854775807:Int))∧∃ (p':Nat),(p'≤l.length∧p'≤(90:Nat) ∧
    (Q0 p' l).all q5t=true)∧l.length-p'<l.length-p∧((p:Int)+(1:Int)=(p':Int)∧True∧True)∧((r1=r1∧r2=r2∧l=l∧True)∧True)∧True∧True∧True
    ∧ True∧True∧True∧True∧True else bif decide ((l.length:Int)≤(90:Int)) then bif decide ((r1.length:Int)≤(60:Int)) then decide ((r2.length:Int)≤(60:Int))=q2p
    (r1,r2,l) else false=q2p (r1,r2,l) else false=q2p (r1,r2,l) else bif decide ((l.length:Int)≤(90:Int)) then bif decide ((r1.length:Int)≤(60:Int)) then decide
    ((r2.length:Int)≤(60:Int))=q2p (r1,r2,l) else false=q2p (r1,r2,l) else false=q2p (r1,r2,l)
     := by
  simp only [true_and,and_true];have hfin:∀ p,p≤l.length∧p≤90∧(Q0 p l).all q5t=true→(l.length≤p∨90≤p) →
      bif decide ((l.length:Int)≤90) then bif decide ((r1.length:Int)≤60) then decide ((r2.length:Int)≤60)=q2p (r1,r2,l) else false=q2p (r1,r2,l) else false=q2p (r1,r2,l):=λp ⟨hp,h9,ha⟩ hq=>by
    have hv:q2p (r1,r2,l)=(decide (l.length≤90)&&(l.all q5t&&(decide (r1.length≤60)&&decide (r2.length≤60)))):=rfl;rw [hv];refine bifP (λh1=>?_) λh1=>?_
    · have h1:l.length≤90:=by have:=of_decide_eq_true h1;omega
      rw [Qq (by omega)] at ha
      rw [ha,decide_eq_true h1];refine bifP (λh2=>?_) λh2=>?_
      · rw [decide_eq_true (p:=r1.length≤60) (by have:=of_decide_eq_true h2;omega)]
        have e:decide ((r2.length:Int)≤60)=decide (r2.length≤60):=decide_eq_decide.2 (by omega)
        rw [e];rfl
      · rw [decide_eq_false (p:=r1.length≤60) (by have:=of_decide_eq_false h2;omega)];rfl
    · rw [decide_eq_false (p:=l.length≤90) (by have:=of_decide_eq_false h1;omega)];rfl
  refine ⟨⟨0,⟨Qe _,Qe _,rfl⟩,rfl⟩,λp hp=>bifP (λh1=>bifP (λh2=>?_) λh2=>hfin p hp (.inr (by have:=of_decide_eq_false h2;omega))) λh1=>hfin p hp (.inl (by have:=of_decide_eq_false h1;omega))⟩
  have hlt:p<l.length:=by have:=of_decide_eq_true h1;omega
  have hl9:p<90:=by have:=of_decide_eq_true h2;omega
  have hxk:=getD_some l ([],[],[],false) p hlt;have hti:((p:Int)).toNat=p:=rfl;rw [hti];have hm:=Qt hxk;generalize l.getD p ([],[],[],false)=x at *
  have no:q5t x=false→false=q2p (r1,r2,l):=λhx=>by
    have hv:q2p (r1,r2,l)=(decide (l.length≤90)&&(l.all q5t&&(decide (r1.length≤60)&&decide (r2.length≤60)))):=rfl;rw [hv,all_no hm hx];simp
  have hs:q5t x=(decide (x.1.length≤60)&&(decide (x.2.1.length≤60)&&decide (x.2.2.1.length≤60))):=rfl;refine ⟨⟨by omega,by omega⟩,bifP (λh3=>no ?_) λh3=>⟨⟨by omega,by omega⟩,bifP (λh4=>no ?_) λh4=>⟨⟨by omega,by omega⟩,bifP (λh5=>no ?_) λh5=>⟨⟨by omega,by omega⟩,p+1,⟨by omega,by omega,all_more hxk hp.2.2 ?_⟩,by omega,by omega⟩⟩⟩⟩
  · rw [hs,decide_eq_false (p:=x.1.length≤60) (by have:=of_decide_eq_true h3;omega)];rfl
  · rw [hs,decide_eq_false (p:=x.2.1.length≤60) (by have:=of_decide_eq_true h4;omega)];simp
  · rw [hs,decide_eq_false (p:=x.2.2.1.length≤60) (by have:=of_decide_eq_true h5;omega)];simp
  · rw [hs,decide_eq_true (p:=x.1.length≤60) (by have:=of_decide_eq_false h3;omega),decide_eq_true (p:=x.2.1.length≤60) (by have:=of_decide_eq_false h4;omega),decide_eq_true (p:=x.2.2.1.length≤60) (by have:=of_decide_eq_false h5;omega)];rfl
set_option maxRecDepth 100000 in
theorem fewa_vc (r:Rul.q11) (f t:AlP) (s:List UInt8) (h:cFewA11.pre (r,f,t,s)) :
    BigR r∧bif q2p r then BigA f∧bif q1x f then BigA t∧bif q1x t then decide ((s.length:Int)≤(100:Int))=(q2p r&&(q1x f&&(q1x t&&decide (s.length≤(100 :
    Nat))))) else false=(q2p r&&(q1x f&&(q1x t&&decide (s.length≤(100:Nat))))) else false=(q2p r&&(q1x f&&(q1x t&&decide (s.length≤(100:Nat))))) else false =
    (q2p r&&(q1x f&&(q1x t&&decide (s.length≤(100:Nat)))))
     := by
  have e:decide ((s.length:Int)≤100)=decide (s.length≤100):=decide_eq_decide.2 (by omega)
  rw [e];refine ⟨h.1,bifP (λh1=>⟨h.2.1,bifP (λh2=>⟨h.2.2,bifP (λh3=>?_) λh3=>?_⟩) λh2=>?_⟩) λh1=>?_⟩
  · rw [show q2p r=true from h1,show q1x f=true from h2,show q1x t=true from h3];rfl
  · rw [show q2p r=true from h1,show q1x f=true from h2,show q1x t=false from h3];rfl
  · rw [show q2p r=true from h1,show q1x f=false from h2];rfl
  · rw [show q2p r=false from h1];rfl
set_option maxRecDepth 100000 in
theorem letters_vc (n a b c:List UInt8) :
    (n,[a,b,c],[(0:Int),(1:Int),(2:Int)])=(n,[a,b,c],[(0:Int),(1:Int),(2:Int)])
     := by
  rfl
set_option maxRecDepth 100000 in
theorem example_vc :
    ([(112:UInt8)],[(113:UInt8)],[([(97:UInt8)],[(120:UInt8)],[],false),([(98:UInt8)],[(121:UInt8)],[],false),([(110:UInt8)],[(122:UInt8)],[],false),([(110 :
    UInt8)],[(121:UInt8)],[(98:UInt8)],false),([(97:UInt8),(98:UInt8)],[(122:UInt8)],[],false),([(97:UInt8)],[],[],true)])=exR
     := by
  rfl
set_option maxRecDepth 100000 in
theorem head_vc :
    True∧True∧True∧(FewR ([(112:UInt8)],[(113:UInt8)],[([(97:UInt8)],[(120:UInt8)],[],false),([(98:UInt8)],[(121:UInt8)],[],false),([(110:UInt8)],[(122:UInt8)],
    [],false),([(110:UInt8)],[(121:UInt8)],[(98:UInt8)],false),([(97:UInt8),(98:UInt8)],[(122:UInt8)],[],false),([(97:UInt8)],[],[],true)])∧FewP ([(112:UInt8)],
    [[(97:UInt8)],[(98:UInt8)],[(110:UInt8)]],[(0:Int),(1:Int),(2:Int)])∧FewP ([(113:UInt8)],[[(120:UInt8)],[(121:UInt8)],[(122:UInt8)]],[(0:Int),(1:Int),(2
    : Int)])∧[(97:UInt8),(98:UInt8)].length≤(1000000:Nat))∧True∧(FewR ([(112:UInt8)],[(113:UInt8)],[([(97:UInt8)],[(120:UInt8)],[],false),([(98:UInt8)],[(121 :
    UInt8)],[],false),([(110:UInt8)],[(122:UInt8)],[],false),([(110:UInt8)],[(121:UInt8)],[(98:UInt8)],false),([(97:UInt8),(98:UInt8)],[(122:UInt8)],[],false),
    ([(97:UInt8)],[],[],true)])∧FewP ([(112:UInt8)],[[(97:UInt8)],[(98:UInt8)],[(110:UInt8)]],[(0:Int),(1:Int),(2:Int)])∧FewP ([(113:UInt8)],[[(120:UInt8)],
    [(121:UInt8)],[(122:UInt8)]],[(0:Int),(1:Int),(2:Int)])∧[(97:UInt8)].length≤(1000000:Nat))∧True∧(FewR ([(112:UInt8)],[(113:UInt8)],[([(97:UInt8)],[(120 :
    UInt8)],[],false),([(98:UInt8)],[(121:UInt8)],[],false),([(110:UInt8)],[(122:UInt8)],[],false),([(110:UInt8)],[(121:UInt8)],[(98:UInt8)],false),([(97:UInt8),
    (98:UInt8)],[(122:UInt8)],[],false),([(97:UInt8)],[],[],true)])∧FewP ([(112:UInt8)],[[(97:UInt8)],[(98:UInt8)],[(110:UInt8)]],[(0:Int),(1:Int),(2:Int)]) ∧
    FewP ([(113:UInt8)],[[(120:UInt8)],[(121:UInt8)],[(122:UInt8)]],[(0:Int),(1:Int),(2:Int)])∧[(110:UInt8),(98:UInt8)].length≤(1000000:Nat))∧True∧(FewR ([(112
    : UInt8)],[(113:UInt8)],[([(97:UInt8)],[(120:UInt8)],[],false),([(98:UInt8)],[(121:UInt8)],[],false),([(110:UInt8)],[(122:UInt8)],[],false),([(110:UInt8)],
    [(121:UInt8)],[(98:UInt8)],false),([(97:UInt8),(98:UInt8)],[(122:UInt8)],[],false),([(97:UInt8)],[],[],true)])∧FewP ([(112:UInt8)],[[(97:UInt8)],[(98 :
    UInt8)],[(110:UInt8)]],[(0:Int),(1:Int),(2:Int)])∧FewP ([(113:UInt8)],[[(120:UInt8)],[(121:UInt8)],[(122:UInt8)]],[(0:Int),(1:Int),(2:Int)])∧[(120 :
    UInt8)].length≤(1000000:Nat))∧[(114:UInt8),(117:UInt8),(108:UInt8),(101:UInt8),(115:UInt8),(32:UInt8),(112:UInt8),(32:UInt8),(116:UInt8),(111:UInt8),(32 :
    UInt8),(113:UInt8),(59:UInt8),(32:UInt8),(34:UInt8),(110:UInt8),(34:UInt8),(32:UInt8),(116:UInt8),(111:UInt8),(32:UInt8),(34:UInt8),(121:UInt8),(34 :
    UInt8),(32:UInt8),(98:UInt8),(101:UInt8),(102:UInt8),(111:UInt8),(114:UInt8),(101:UInt8),(32:UInt8),(34:UInt8),(98:UInt8),(34:UInt8),(59:UInt8)].length ≤
    (1000000:Nat)∧[(114:UInt8),(117:UInt8),(108:UInt8),(101:UInt8),(115:UInt8),(32:UInt8),(112:UInt8),(32:UInt8),(116:UInt8),(111:UInt8),(32:UInt8),(113 :
    UInt8),(59:UInt8),(32:UInt8),(34:UInt8),(97:UInt8),(34:UInt8),(32:UInt8),(116:UInt8),(111:UInt8),(32:UInt8),(34:UInt8),(34:UInt8),(59:UInt8),(32 :
    UInt8),(34:UInt8),(97:UInt8),(34:UInt8),(32:UInt8),(116:UInt8),(111:UInt8),(32:UInt8),(34:UInt8),(34:UInt8),(59:UInt8)].length≤(1000000:Nat)∧((Rul.setOf
    (Rul.tabs (QH (Rul.q1b [[(97:UInt8)],[(98:UInt8)],[(110:UInt8)]]) [([(97:UInt8)],[(120:UInt8)],[],false),([(98:UInt8)],[(121:UInt8)],[],false),([(110 :
    UInt8)],[(122:UInt8)],[],false),([(110:UInt8)],[(121:UInt8)],[(98:UInt8)],false),([(97:UInt8),(98:UInt8)],[(122:UInt8)],[],false),([(97:UInt8)],[],[],true)])
    ([]++[(↑(Al.idx [[(97:UInt8)],[(98:UInt8)],[(110:UInt8)]] (Q0 (nat_lit 0+(1:Nat)) [(97:UInt8),(98:UInt8)])):Int)]++[(↑(Al.idx [[(97:UInt8)],[(98:UInt8)],
    [(110:UInt8)]] (Q0 (nat_lit 0+(1:Nat)) [(98:UInt8)])):Int)]) ([]++[(↑(Al.idx [[(97:UInt8)],[(98:UInt8)],[(110:UInt8)]] (Q0 (nat_lit 0+(1:Nat)) [(97 :
    UInt8),(98:UInt8)])):Int)]++[(↑(Al.idx [[(97:UInt8)],[(98:UInt8)],[(110:UInt8)]] (Q0 (nat_lit 0+(1:Nat)) [(98:UInt8)])):Int)]).length ([]++[(↑(Al.idx [[(97 :
    UInt8)],[(98:UInt8)],[(110:UInt8)]] (Q0 (nat_lit 0+(1:Nat)) [(97:UInt8),(98:UInt8)])):Int)]++[(↑(Al.idx [[(97:UInt8)],[(98:UInt8)],[(110:UInt8)]] (Q0
    (nat_lit 0+(1:Nat)) [(98:UInt8)])):Int)]).length)).length≤(1000000000:Nat)∧[[(120:UInt8),(121:UInt8)],[(122:UInt8)]].length≤(1000000000:Nat))∧((Rul.setOf
    (Rul.tabs (QH (Rul.q1b [[(97:UInt8)],[(98:UInt8)],[(110:UInt8)]]) [([(97:UInt8)],[(120:UInt8)],[],false),([(98:UInt8)],[(121:UInt8)],[],false),([(110 :
    UInt8)],[(122:UInt8)],[],false),([(110:UInt8)],[(121:UInt8)],[(98:UInt8)],false),([(97:UInt8),(98:UInt8)],[(122:UInt8)],[],false),([(97:UInt8)],[],[],true)])
    ([]++[(↑(Al.idx [[(97:UInt8)],[(98:UInt8)],[(110:UInt8)]] (Q0 (nat_lit 0+(1:Nat)) [(97:UInt8)])):Int)]) ([]++[(↑(Al.idx [[(97:UInt8)],[(98:UInt8)],[(110 :
    UInt8)]] (Q0 (nat_lit 0+(1:Nat)) [(97:UInt8)])):Int)]).length ([]++[(↑(Al.idx [[(97:UInt8)],[(98:UInt8)],[(110:UInt8)]] (Q0 (nat_lit 0+(1:Nat)) [(97 :
    UInt8)])):Int)]).length)).length≤(1000000000:Nat)∧[[],[(120:UInt8)]].length≤(1000000000:Nat))∧((Rul.setOf (Rul.tabs (QH (Rul.q1b [[(97:UInt8)],[(98:UInt8)],
    [(110:UInt8)]]) [([(97:UInt8)],[(120:UInt8)],[],false),([(98:UInt8)],[(121:UInt8)],[],false),([(110:UInt8)],[(122:UInt8)],[],false),([(110:UInt8)],[(121 :
    UInt8)],[(98:UInt8)],false),([(97:UInt8),(98:UInt8)],[(122:UInt8)],[],false),([(97:UInt8)],[],[],true)]) ([]++[(↑(Al.idx [[(97:UInt8)],[(98:UInt8)],[(110 :
    UInt8)]] (Q0 (nat_lit 0+(1:Nat)) [(110:UInt8),(98:UInt8)])):Int)]++[(↑(Al.idx [[(97:UInt8)],[(98:UInt8)],[(110:UInt8)]] (Q0 (nat_lit 0+(1:Nat)) [(98 :
    UInt8)])):Int)]) ([]++[(↑(Al.idx [[(97:UInt8)],[(98:UInt8)],[(110:UInt8)]] (Q0 (nat_lit 0+(1:Nat)) [(110:UInt8),(98:UInt8)])):Int)]++[(↑(Al.idx [[(97 :
    UInt8)],[(98:UInt8)],[(110:UInt8)]] (Q0 (nat_lit 0+(1:Nat)) [(98:UInt8)])):Int)]).length ([]++[(↑(Al.idx [[(97:UInt8)],[(98:UInt8)],[(110:UInt8)]] (Q0
    (nat_lit 0+(1:Nat)) [(110:UInt8),(98:UInt8)])):Int)]++[(↑(Al.idx [[(97:UInt8)],[(98:UInt8)],[(110:UInt8)]] (Q0 (nat_lit 0+(1:Nat)) [(98:UInt8)])) :
    Int)]).length)).length≤(1000000000:Nat)∧[[(121:UInt8),(121:UInt8)],[(122:UInt8),(121:UInt8)]].length≤(1000000000:Nat))∧((0:Int)≤(0:Int)∧(0:Int)<(↑([] ++
    [(Q0 (Lx.span Lx.q0p [(110:UInt8),(34:UInt8),(32:UInt8),(116:UInt8),(111:UInt8),(32:UInt8),(34:UInt8),(121:UInt8),(34:UInt8),(32:UInt8),(98:UInt8),
    (101:UInt8),(102:UInt8),(111:UInt8),(114:UInt8),(101:UInt8),(32:UInt8),(34:UInt8),(98:UInt8),(34:UInt8),(59:UInt8)]) [(110:UInt8),(34:UInt8),(32:UInt8),
    (116:UInt8),(111:UInt8),(32:UInt8),(34:UInt8),(121:UInt8),(34:UInt8),(32:UInt8),(98:UInt8),(101:UInt8),(102:UInt8),(111:UInt8),(114:UInt8),(101:UInt8),
    (32:UInt8),(34:UInt8),(98:UInt8),(34:UInt8),(59:UInt8)],Q0 (Lx.span Lx.q0p [(121:UInt8),(34:UInt8),(32:UInt8),(98:UInt8),(101:UInt8),(102:UInt8),
    (111:UInt8),(114:UInt8),(101:UInt8),(32:UInt8),(34:UInt8),(98:UInt8),(34:UInt8),(59:UInt8)]) [(121:UInt8),(34:UInt8),(32:UInt8),(98:UInt8),(101:UInt8),
    (102:UInt8),(111:UInt8),(114:UInt8),(101:UInt8),(32:UInt8),(34:UInt8),(98:UInt8),(34:UInt8),(59:UInt8)],Q0 (Lx.span Lx.q0p [(98:UInt8),(34:UInt8),
    (59:UInt8)]) [(98:UInt8),(34:UInt8),(59:UInt8)],false)]).length:Int))∧True∧(FewR ([(112:UInt8)],[(113:UInt8)],[([(97:UInt8)],[(120:UInt8)],[],false),([(98 :
    UInt8)],[(121:UInt8)],[],false),([(110:UInt8)],[(122:UInt8)],[],false),([(110:UInt8)],[(121:UInt8)],[(98:UInt8)],false),([(97:UInt8),(98:UInt8)],[(122 :
    UInt8)],[],false),([(97:UInt8)],[],[],true)])∧FewP ([(112:UInt8)],[[(97:UInt8)],[(98:UInt8)],[(110:UInt8)]],[(0:Int),(1:Int),(2:Int)])∧FewP ([(113:UInt8)],
    [[(120:UInt8)],[(121:UInt8)],[(122:UInt8)]],[(0:Int),(1:Int),(2:Int)]))∧True∧(FewR ([(112:UInt8)],[(113:UInt8)],[([(97:UInt8)],[(120:UInt8)],[],false),
    ([(98:UInt8)],[(121:UInt8)],[],false),([(110:UInt8)],[(122:UInt8)],[],false),([(110:UInt8)],[(121:UInt8)],[(98:UInt8)],false),([(97:UInt8),(98:UInt8)],[(122 :
    UInt8)],[],false),([(97:UInt8)],[],[],true)])∧FewP ([(113:UInt8)],[[(120:UInt8)],[(121:UInt8)],[(122:UInt8)]],[(0:Int),(1:Int),(2:Int)])∧FewP ([(112 :
    UInt8)],[[(97:UInt8)],[(98:UInt8)],[(110:UInt8)]],[(0:Int),(1:Int),(2:Int)]))∧(!Rul.q09 ([(112:UInt8)],[(113:UInt8)],[([(97:UInt8)],[(120:UInt8)],[],
    false),([(98:UInt8)],[(121:UInt8)],[],false),([(110:UInt8)],[(122:UInt8)],[],false),([(110:UInt8)],[(121:UInt8)],[(98:UInt8)],false),([(97:UInt8),(98:UInt8)],
    [(122:UInt8)],[],false),([(97:UInt8)],[],[],true)]) (alOf ([(113:UInt8)],[[(120:UInt8)],[(121:UInt8)],[(122:UInt8)]],[(0:Int),(1:Int),(2:Int)])) (alOf ([(112 :
    UInt8)],[[(97:UInt8)],[(98:UInt8)],[(110:UInt8)]],[(0:Int),(1:Int),(2:Int)])))=true
     := by
  simp only [true_and,and_true];have hE:FewR exR:=⟨by decide,by decide,by decide,show ∀ x∈exR.2.2,x.1.length≤1000∧x.2.1.length≤1000∧x.2.2.1.length≤1000 by decide⟩
  have hP:FewP ([112],[[97],[98],[110]],[0,1,2]):=⟨by decide,by decide,by decide,by decide⟩
  have hQ:FewP ([113],[[120],[121],[122]],[0,1,2]):=⟨by decide,by decide,by decide,by decide⟩
  unfold exR at hE
  repeat' (first | exact hE | exact hP | exact hQ | refine And.intro ?_ ?_)
  all_goals first | exact of_decide_eq_true (by kernel_rfl) | kernel_rfl
set_option maxRecDepth 100000 in
theorem fewal_vc (n:List UInt8) (ls:List (List UInt8)) (sm:List Int) (h:cFewAl.pre (n,ls,sm)) :
    (∃ (p':Nat),(p'≤ls.length∧p'≤(70:Nat)∧((Q0 p' ls).all λ(l:List UInt8)=>decide (l.length≤(20:Nat)))=true)∧((0:Int)=(p':Int)∧True∧True)∧((n=n
    ∧ ls=ls∧sm=sm∧True)∧True)∧True∧True∧True∧True∧True∧True∧True∧True)∧∀ (p:Nat),p≤ls.length∧p≤(70:Nat)∧((Q0 p ls).all λ(l:List UInt8) =>
    decide (l.length≤(20:Nat)))=true→bif decide ((p:Int)<(ls.length:Int)) then bif decide ((p:Int)<(70:Int)) then ((0:Int)≤(p:Int)∧(p:Int)<(↑ls.length :
    Int))∧bif decide ((20:Int)<(↑(ls.getD (p:Int).toNat []).length:Int)) then false=q1x (n,ls,sm) else ((-9223372036854775808:Int)≤(p:Int)+(1:Int)∧(p:Int)+(1 :
    Int)≤(9223372036854775807:Int))∧∃ (p':Nat),(p'≤ls.length∧p'≤(70:Nat)∧((Q0 p' ls).all λ(l:List UInt8)=>decide (l.length≤(20:Nat)))=true)∧ls.length -
    p'<ls.length-p∧((p:Int)+(1:Int)=(p':Int)∧True∧True)∧((n=n∧ls=ls∧sm=sm∧True)∧True)∧True∧True∧True∧True∧True∧True∧True∧True else bif
    decide ((ls.length:Int)≤(70:Int)) then bif decide ((sm.length:Int)≤(70:Int)) then decide ((n.length:Int)≤(100:Int))=q1x (n,ls,sm) else false=q1x (n,ls,sm)
    else false=q1x (n,ls,sm) else bif decide ((ls.length:Int)≤(70:Int)) then bif decide ((sm.length:Int)≤(70:Int)) then decide ((n.length:Int)≤(100:Int))=q1x (n,
    ls,sm) else false=q1x (n,ls,sm) else false=q1x (n,ls,sm)
     := by
  simp only [true_and,and_true];have hv:q1x (n,ls,sm)=(decide (ls.length≤70)&&(ls.all (λl=>decide (Ql l≤20))&&(decide (sm.length≤70)&&decide (n.length≤100)))):=rfl
  have hfin:∀ p,p≤ls.length∧p≤70∧((Q0 p ls).all λl=>decide (Ql l≤20))=true→(ls.length≤p∨70≤p) →
      bif decide ((ls.length:Int)≤70) then bif decide ((sm.length:Int)≤70) then decide ((n.length:Int)≤100)=q1x (n,ls,sm) else false=q1x (n,ls,sm) else false=q1x (n,ls,sm):=λp ⟨hp,h9,ha⟩ hq=>by
    rw [hv];refine bifP (λh1=>?_) λh1=>?_
    · have h1:ls.length≤70:=by have:=of_decide_eq_true h1;omega
      rw [Qq (by omega)] at ha
      rw [ha,decide_eq_true h1];refine bifP (λh2=>?_) λh2=>?_
      · rw [decide_eq_true (p:=sm.length≤70) (by have:=of_decide_eq_true h2;omega)]
        have e:decide ((n.length:Int)≤100)=decide (n.length≤100):=decide_eq_decide.2 (by omega)
        rw [e];rfl
      · rw [decide_eq_false (p:=sm.length≤70) (by have:=of_decide_eq_false h2;omega)];rfl
    · rw [decide_eq_false (p:=ls.length≤70) (by have:=of_decide_eq_false h1;omega)];rfl
  refine ⟨⟨0,⟨Qe _,Qe _,rfl⟩,rfl⟩,λp hp=>bifP (λh1=>bifP (λh2=>?_) λh2=>hfin p hp (.inr (by have:=of_decide_eq_false h2;omega))) λh1=>hfin p hp (.inl (by have:=of_decide_eq_false h1;omega))⟩
  have hlt:p<ls.length:=by have:=of_decide_eq_true h1;omega
  have hl9:p<70:=by have:=of_decide_eq_true h2;omega
  have hxk:=getD_some ls [] p hlt;have hti:((p:Int)).toNat=p:=rfl;rw [hti];have hm:=Qt hxk;generalize ls.getD p []=x at *
  refine ⟨⟨by omega,by omega⟩,bifP (λh3=>?_) λh3=>⟨⟨by omega,by omega⟩,p+1,⟨by omega,by omega,all_more hxk hp.2.2 (decide_eq_true (by have:=of_decide_eq_false h3;omega))⟩,by omega,by omega⟩⟩
  rw [hv,all_no hm (decide_eq_false (by have:=of_decide_eq_true h3;omega))];simp
set_option maxRecDepth 100000 in
theorem ints_vc (a b:List Int) (h:cIntsR.pre (a,b)) :
    bif (a.length:Int) != (b.length:Int) then false=(a==b) else (∃ (p':Nat),(p'≤a.length∧Q0 p' a=Q0 p' b)∧((0:Int)=(p':Int)∧a=a∧b=b∧True) ∧
    True∧True∧True∧True∧True∧True∧True∧True∧True)∧∀ (p:Nat),p≤a.length∧Q0 p a=Q0 p b→bif decide ((p:Int)<(a.length:Int)) then ((0:Int)≤(↑p
    : Int)∧(p:Int)<(a.length:Int))∧((0:Int)≤(p:Int)∧(p:Int)<(b.length:Int))∧bif a.getD (p:Int).toNat (0:Int) != b.getD (p:Int).toNat (0:Int) then false =
    (a==b) else ((-9223372036854775808:Int)≤(p:Int)+(1:Int)∧(p:Int)+(1:Int)≤(9223372036854775807:Int))∧∃ (p':Nat),(p'≤a.length∧Q0 p' a=Q0 p' b)
    ∧ a.length-p'<a.length-p∧((p:Int)+(1:Int)=(p':Int)∧a=a∧b=b∧True)∧True∧True∧True∧True∧True∧True∧True∧True∧True else true=(a==b)
     := by
  simp only [true_and,and_true];exact qgn 0 a b h.1 _ (λe=>e.symm) _ (λe=>e.symm)
set_option maxRecDepth 100000 in
theorem qim:cTexts.Holds Tryz.prog:=by
 refine q20 (cons:=[]) Tryz.func14 (by kernel_rfl) (by kernel_rfl) mixed (by kernel_rfl) (λc h=>by cases h) (λp=>anTexts p.1 p.2) λp hp=>?_
 obtain ⟨a,b⟩:=p;refine cast ?_ (texts_vc a b hp)
 kernel_rfl
set_option maxRecDepth 100000 in
theorem intsr_holds:cIntsR.Holds Tryz.prog:=by
 refine q20 (cons:=[]) Tryz.func52 (by kernel_rfl) (by kernel_rfl) mixed (by kernel_rfl) (λc h=>by cases h) (λp=>anIntsR p.1 p.2) λp hp=>?_
 obtain ⟨a,b⟩:=p;refine cast ?_ (ints_vc a b hp)
 kernel_rfl
set_option maxRecDepth 100000 in
theorem same_holds:cSame.Holds Tryz.prog:=by
 refine q20 (cons:=[]) Tryz.func15 (by kernel_rfl) (by kernel_rfl) mixed (by kernel_rfl) (λc h=>by cases h) (λp=>anSame p.1.2.2 p.2.2.2) λp hp=>?_
 obtain ⟨⟨a1,a2,a⟩,b1,b2,b⟩:=p;refine cast ?_ (same_vc a1 a2 b1 b2 a b hp)
 kernel_rfl
set_option maxRecDepth 100000 in
theorem fewr_holds:cFewR.Holds Tryz.prog:=by
 refine q20 (cons:=[]) Tryz.func18 (by kernel_rfl) (by kernel_rfl) mixed (by kernel_rfl) (λc h=>by cases h) (λp=>anFew p) λp hp=>?_
 obtain ⟨r1,r2,l⟩:=p;refine cast ?_ (few_vc r1 r2 l hp)
 kernel_rfl
set_option maxRecDepth 100000 in
theorem fewal_holds:cFewAl.Holds Tryz.prog:=by
 refine q20 (cons:=[]) Tryz.func19 (by kernel_rfl) (by kernel_rfl) mixed (by kernel_rfl) (λc h=>by cases h) (λp=>anFewAl p.2.1) λp hp=>?_
 obtain ⟨n,ls,sm⟩:=p;refine cast ?_ (fewal_vc n ls sm hp)
 kernel_rfl
set_option maxRecDepth 100000 in
theorem fewa11_holds:cFewA11.Holds Tryz.prog:=by
 refine q20 (cons:=[cFewR,cFewAl]) Tryz.func5 (by kernel_rfl) (by kernel_rfl) mixed (by kernel_rfl) (λc h=>by
  rcases Qo.1 h with rfl | h
  ·exact fewr_holds
  ·obtain rfl:=Qk.1 h;exact fewal_holds) (λ_=>[]) λp hp=>?_
 obtain ⟨r,f,t,s⟩:=p;refine cast ?_ (fewa_vc r f t s hp)
 kernel_rfl
set_option maxRecDepth 100000 in
theorem qln:cLetters.Holds Tryz.prog:=by
 refine q20 (cons:=[]) Tryz.func16 (by kernel_rfl) (by kernel_rfl) mixed (by kernel_rfl) (λc h=>by cases h) (λ_=>[]) λp hp=>?_
 obtain ⟨n,a,b,c⟩:=p;have key:∀ (T G:Prop),T=G→T→G:=λT G h a=>h▸a
 apply key ((n,[a,b,c],[(0:Int),(1:Int),(2:Int)])=(n,[a,b,c],[(0:Int),(1:Int),(2:Int)]))
 ·kernel_rfl
 ·exact letters_vc n a b c
set_option maxRecDepth 100000 in
theorem qlj:cExample.Holds Tryz.prog:=by
 refine q20 (cons:=[]) Tryz.func17 (by kernel_rfl) (by kernel_rfl) mixed (by kernel_rfl) (λc h=>by cases h) (λ_=>[]) λp hp=>?_
 refine cast ?_ example_vc
 kernel_rfl
set_option maxRecDepth 100000 in
theorem head11_holds:cHead11.Holds Tryz.prog:=by
 refine q20 (cons:=consHead) Tryz.func4 (by kernel_rfl) (by kernel_rfl) mixed (by kernel_rfl) (λc h=>by
  rcases Qo.1 h with rfl | h
  ·exact qln
  rcases Qo.1 h with rfl | h
  ·exact qlj
  rcases Qo.1 h with rfl | h
  ·exact qkh
  rcases Qo.1 h with rfl | h
  ·exact qi1
  rcases Qo.1 h with rfl | h
  ·exact qim
  ·obtain rfl:=Qk.1 h;exact qfw) (λ_=>[]) λp hp=>?_
 refine cast ?_ head_vc
 kernel_rfl
set_option maxRecDepth 100000 in
theorem qgp:gPlain.Holds Tryz.prog:=by
 refine q20 (cons:=[]) Tryz.func57 (by kernel_rfl) (by kernel_rfl) mixed (by kernel_rfl) all_nil (λp=>anGPlain p.1) λp hp=>?_
 obtain ⟨s,lo,hi⟩:=p;refine cast ?_ (gPlain_vc s lo hi hp)
 kernel_rfl
set_option maxRecDepth 100000 in
theorem qfm:qhi.Holds Tryz.prog:=by
 refine q20 (cons:=[gPlain,cNameG]) Tryz.func32 (by kernel_rfl) (by kernel_rfl) mixed (by kernel_rfl) (all_cons qgp (all_cons qir all_nil)) (λp=>anGFormed p.2.2) λp hp=>?_
 obtain ⟨r1,r2,l⟩:=p;refine cast ?_ (gFormed_vc r1 r2 l hp)
 kernel_rfl
set_option maxRecDepth 100000 in
theorem q9j:qf0.Holds Tryz.prog:=by
 refine q20 (cons:=[qgz]) Tryz.func27 (by kernel_rfl) (by kernel_rfl) mixed (by kernel_rfl) (all_cons qe0 all_nil) (λ_=>[]) λp hp=>?_
 obtain ⟨p,s,m⟩:=p;refine cast ?_ (gLetters_vc p s m hp)
 kernel_rfl
set_option maxRecDepth 100000 in
theorem qg6:gValid.Holds Tryz.prog:=by
 refine q20 (cons:=[qhi,cValidG,qf0]) Tryz.func13 (by kernel_rfl) (by kernel_rfl) mixed (by kernel_rfl) (all_cons qfm (all_cons valid_holdsG (all_cons q9j all_nil))) (λp=>anGValid p.1.2.2 p.2.1.2.1 p.2.2.2.1) λp hp=>?_
 obtain ⟨r,f,t⟩:=p;refine cast ?_ (gValid_vc r f t hp)
 kernel_rfl
set_option maxRecDepth 100000 in
theorem qli:gStands.Holds Tryz.prog:=by
 refine q20 (cons:=[qf0,cIntsR]) Tryz.func26 (by kernel_rfl) (by kernel_rfl) mixed (by kernel_rfl) (all_cons q9j (all_cons intsr_holds all_nil)) (λp=>anGStands (Rul.q07 p.2.1.2.1 p.1.2.2.1 10).1 p.2.2.1 (p.2.2.2.toNat+(Rul.q07 p.2.1.2.1 p.1.1 3).1.length)) λp hp=>?_
 obtain ⟨x,al,w,at_⟩:=p;refine cast ?_ (gStands_vc x al w at_ hp)
 kernel_rfl
set_option maxRecDepth 100000 in
theorem gText_holds:gText.Holds Tryz.prog:=by
 refine q20 (cons:=[qhi]) Tryz.func9 (by kernel_rfl) (by kernel_rfl) mixed (by kernel_rfl) (all_cons qfm all_nil) (λp=>anGText p) λp hp=>?_
 refine cast ?_ (gText_vc p hp)
 kernel_rfl
abbrev kRd:Kds:=.cons (.sl kTok) (.cons (.int .i64) (.cons (.int .i64) (.cons (.int .i64) (.one (.int .i64)))))
abbrev RdP:Type:=List Rul.TP×Int×Int×Int×Int
abbrev tok0:Rul.TP:=(0,0,0,[])
def q0y (x:RdP) (e a:Int):RdP:=bif x.2.2.2.1==0 then (x.1,x.2.1,x.2.2.1,e,a) else x
def q4p (x:RdP) (s:List UInt8):Bool:=x.2.2.2.1==0&&(decide (x.2.1<x.1.length)&&((x.1.getD x.2.1.toNat tok0).1==1&&(x.1.getD x.2.1.toNat tok0).2.2.2==s))
def q3y (x:RdP):RdP:=(x.1,x.2.1+1,x.2.2)
def q0d (x:RdP) (k:Int) (s:List UInt8):Rul.TP×RdP :=
 bif decide ((x.1.length:Int)≤x.2.1) then (tok0,q0y x 6 x.2.2.1)
 else (x.1.getD x.2.1.toNat tok0,q3y (bif !((x.1.getD x.2.1.toNat tok0).1==k)||(!(s==[])&&!((x.1.getD x.2.1.toNat tok0).2.2.2==s)) then q0y x 5 (x.1.getD x.2.1.toNat tok0).2.1 else x))
def q0b (x:RdP) (lo hi:Int):List UInt8×RdP :=
 ((q0d x 3 []).1.2.2.2,bif Rul.q0e (q0d x 3 []).1.2.2.2 lo hi then (q0d x 3 []).2 else q0y (q0d x 3 []).2 1 (q0d x 3 []).1.2.1)
def okRd (x:RdP):Prop:=Ql x.1≤1000000∧(∀ t∈x.1,Ql t.2.2.2≤1000000000)∧0≤x.2.1∧x.2.1≤Ql x.1
def gFault:RCon:={ f:=38,ks:=kRd,args:=[q3l,q3l],res:=[],pre:=λ_ _=>True,F:=λ(x:RdP) p=>((),q0y x p.1 p.2) }
def gSees:RCon:={ f:=40,ks:=kRd,args:=[q3a],res:=[ckB],pre:=λ(x:RdP) _=>okRd x,F:=λ(x:RdP) p=>(q4p x p,x) }
def gTake:RCon:={ f:=37,ks:=kRd,args:=[q3l,q3a],res:=[.agg kTok],pre:=λ(x:RdP) _=>okRd x,F:=λ(x:RdP) p=>q0d x p.1 p.2 }
def gRText:RCon:={ f:=39,ks:=kRd,args:=[q3l,q3l],res:=[q3a],pre:=λ(x:RdP) _=>okRd x,F:=λ(x:RdP) p=>q0b x p.1 p.2 }
def gLex:Con:=.of 36 [.one .str] [.one (.sl kTok),.one (.int .i64),.one (.int .i64)] (λs=>Ql s≤1000000) lexP
def q6p (f t:List UInt8) (x:RdP):Rul.Rule×RdP :=
 bif q4p x Rul.q76 then ((f,t,(q0b (q3y x) 1 30).1,false),(q0b (q3y x) 1 30).2)
 else bif q4p x Rul.wAt then ((f,t,[],true),(q0d (q3y x) 1 Rul.wEnd).2)
 else ((f,t,[],false),x)
def q27 (x:RdP):Rul.Rule×RdP :=
 q6p (q0b x 1 9).1 (q0b (q0d (q0b x 1 9).2 1 Rul.wTo).2 0 9).1 (q0b (q0d (q0b x 1 9).2 1 Rul.wTo).2 0 9).2
def q5l (acc:List Rul.Rule) (x:RdP):Bool:=acc.length==80&&(x.1.getD x.2.1.toNat tok0).1==3
def q1n (acc:List Rul.Rule) (x:RdP):RdP:=bif q5l acc x then q0y x 2 (x.1.getD x.2.1.toNat tok0).2.1 else x
def q1c (acc:List Rul.Rule) (r:Rul.Rule) (a:Int) (x:RdP):RdP:=bif acc.any (λy=>y==r) then q0y x 8 a else x
def q2c (acc:List Rul.Rule) (x:RdP):List Rul.Rule×RdP :=
 (acc++[(q27 (q1n acc x)).1],q1c acc (q27 (q1n acc x)).1 (q0d (q27 (q1n acc x)).2 4 [59]).1.2.1 (q0d (q27 (q1n acc x)).2 4 [59]).2)
def q4h (acc:List Rul.Rule) (x:RdP):Bool:=x.2.2.2.1==0&&(decide (x.2.1<x.1.length)||acc.length==0)
def runR:Nat→List Rul.Rule→RdP→List Rul.Rule×RdP
 | 0,acc,x=>(acc,x)
 | f+1,acc,x=>bif q4h acc x then runR f (q2c acc x).1 (q2c acc x).2 else (acc,x)
def q4j (x:RdP):List UInt8×List UInt8×RdP :=
 let x1:=(q0d x 1 Rul.q4o).2
 let a:=q0d x1 1 []
 let x2:=(q0d a.2 1 Rul.wTo).2
 let b:=q0d x2 1 []
 (a.1.2.2.2,b.1.2.2.2,(q0d b.2 4 [59]).2)
def rd0 (s:List UInt8):RdP:=((Lx.lex s).1.map tokP,0,s.length,0,0)
def q65 (x:RdP):Nat:=(bif x.2.2.2.1==0 then 1 else 0)+(x.1.length-x.2.1.toNat)
def endR (a b:List UInt8) (q:List Rul.Rule×RdP):Rul.q11×Int×Int:=bif q.2.2.2.2.1==0 then ((a,b,q.1),0,0) else (([],[],[]),q.2.2.2.2.1,q.2.2.2.2.2)
def q18 (s:List UInt8):Rul.q11×Int×Int :=
 bif (Lx.lex s).2.1==0 then endR (q4j (rd0 s)).1 (q4j (rd0 s)).2.1 (runR (q65 (q4j (rd0 s)).2.2+1) [] (q4j (rd0 s)).2.2)
 else (([],[],[]),(Lx.lex s).2.1,(Lx.lex s).2.2)
def R.Get.rd (st:St):RdP:=match st.box 28 with
 | some cs=>match q1e kRd cs with
  | some p=>p
  | none=>kRd.dflt
 | none=>kRd.dflt
def R.Get.rule (b:Nat) (st:St):Rul.Rule:=match st.box b with
 | some cs=>match q1e q7u cs with
  | some p=>p
  | none=>q7u.dflt
 | none=>q7u.dflt
def R.Get.tok (b:Nat) (st:St):Rul.TP:=match st.box b with
 | some cs=>match q1e kTok cs with
  | some p=>p
  | none=>kTok.dflt
 | none=>kTok.dflt
def R.Get.acc (st:St):List Rul.Rule:=match st.row 67 with
 | some y=>match y.fs.deq q7u with
  | some ⟨h⟩=>q4n h y.xs
  | none=>[]
 | none=>[]
def inRun (s:List UInt8) (p:List Rul.Rule×RdP):Prop :=
 p.2.1=(Lx.lex s).1.map tokP∧okRd p.2∧p.1.length≤p.2.2.1.toNat+(bif p.2.2.2.2.1==0 then 0 else 1)∧∃ f,q65 p.2<f∧runR (q65 (q4j (rd0 s)).2.2+1) [] (q4j (rd0 s)).2.2=runR f p.1 p.2
def R.box9 (st:St):List Cell :=
 match st.box 9 with
 | some (a::b::_)=>[a,b,.own 67]
 | _=>[]
def anGParse (s:List UInt8):List (Nat×Ann) :=
  [annX 0 (List Rul.Rule×RdP) (λst p=>st.hd { live:=[2,5,8,9],sav:=[],box:=[2] } [] [(28,kRd.cells p.2),(9,R.box9 st)] [(67,q9q p.1)] [] none) (λ_ p=>inRun s p) (λ_ p=>q65 p.2),
   behindAt 11 Bool (λst q=>st.hd { live:=[2,5,8,9],sav:=[],box:=[2,9,28] } [(63,R.bool q)] [] [(67,q9q (R.Get.acc st))] [] none) (λst q=>q=q4h (R.Get.acc st) (R.Get.rd st)),
   behindAt 12 Bool (λst q=>st.hd { live:=[2,5,8,9],sav:=[],box:=[2,9,28] } [(78,R.bool q)] [] [(67,q9q (R.Get.acc st))] [] none) (λst q=>q=q5l (R.Get.acc st) (R.Get.rd st)),
   cutAt 14 RdP (λst q=>st.hd { live:=[2,5,8,9],sav:=[],box:=[2,9] } [] [(28,kRd.cells q)] [(67,q9q (R.Get.acc st))] [] none) (λst q=>q=q1n (R.Get.acc st) (R.Get.rd st)),
   cutAt 25 (Rul.Rule×RdP) (λst q=>st.hd { live:=[2,5,8,9,10],sav:=[],box:=[2,9] } [] [(28,kRd.cells q.2),(10,q7u.cells q.1)] [(67,q9q (R.Get.acc st))] [] none) (λst q=>q=q6p (R.Get.rule 10 st).1 (R.Get.rule 10 st).2.1 (R.Get.rd st)),
   annX 2 Nat (λst k=>st.hd { live:=[2,5,8,9,10,11],sav:=[],box:=[2,9,10,11] } [(12,R.int .i64 k)] [(28,kRd.cells (q1c ((R.Get.acc st).take k) (R.Get.rule 10 st) (R.Get.tok 11 st).2.1 (R.Get.rd st)))] [(67,q9q (R.Get.acc st))] [] none)
     (λst k=>k≤(R.Get.acc st).length) (λst k=>(R.Get.acc st).length-k)]
def gParse:Con:=.of 11 [q3a] [q0t,q3l,q3l] (λs=>Ql s≤1000000) q18
set_option maxRecDepth 100000 in
theorem gFault_vc (l:List Rul.TP) (i n e a k m:Int) :
    bif e==(0:Int) then True∧()=()∧(l,i,n,k,m)=q0y (l,i,n,e,a) k m else True∧()=()∧(l,i,n,e,a)=q0y (l,i,n,e,a) k m
     := by
  simp only [true_and,and_true];unfold q0y;dsimp only;cases e==0 <;> rfl
set_option maxRecDepth 100000 in
theorem gSees_vc (l:List Rul.TP) (i n e a:Int) (s:List UInt8) (h:okRd (l,i,n,e,a)) :
    bif e==(0:Int) then bif decide (i<(l.length:Int)) then ((0:Int)≤i∧i<(l.length:Int))∧bif (l.getD i.toNat ((0:Int),(0:Int),(0:Int),[])).1==(1:Int) then ((0 :
    Int)≤i∧i<(l.length:Int))∧True∧((l.getD i.toNat ((0:Int),(0:Int),(0:Int),[])).2.2.2==s)=q4p (l,i,n,e,a) s∧(l,i,n,e,a)=(l,i,n,e,a) else True∧false
    = q4p (l,i,n,e,a) s∧(l,i,n,e,a)=(l,i,n,e,a) else True∧false=q4p (l,i,n,e,a) s∧(l,i,n,e,a)=(l,i,n,e,a) else True∧false=q4p (l,i,n,e,a) s ∧
    (l,i,n,e,a)=(l,i,n,e,a)
     := by
  simp only [true_and,and_true];obtain ⟨_,_,h0,_⟩:=h;have h0:0≤i:=h0;unfold q4p;dsimp only;refine bifP (λg=>?_) λg=>by rw [g];rfl
  rw [g];refine bifP (λc=>?_) λc=>by rw [c];rfl
  rw [c];have c:=of_decide_eq_true c;refine ⟨⟨h0,c⟩,bifP (λd=>⟨⟨h0,c⟩,by rw [d];rfl⟩) λd=>by rw [d];rfl⟩
set_option maxRecDepth 100000 in
theorem gTake_vc (l:List Rul.TP) (i n e a k:Int) (s:List UInt8) (h:okRd (l,i,n,e,a)) :
    bif decide ((l.length:Int)≤i) then True∧∀ (r:Unit) (y:List (Int×Int×Int×List UInt8)×Int×Int×Int×Int),((),q0y (l,i,n,e,a) (6:Int) n)=(r,y)→True∧((0
    : Int),(0:Int),(0:Int),[])=(q0d (l,i,n,e,a) k s).1∧y=(q0d (l,i,n,e,a) k s).2 else ((0:Int)≤i∧i<(l.length:Int))∧bif (l.getD i.toNat ((0:Int),(0 :
    Int),(0:Int),[])).1 != k then True∧∀ (r:Unit) (y:List (Int×Int×Int×List UInt8)×Int×Int×Int×Int),((),q0y (l,i,n,e,a) (5:Int) (l.getD i.toNat ((0:Int),(0
    : Int),(0:Int),[])).2.1)=(r,y)→((-9223372036854775808:Int)≤y.2.1+(1:Int)∧y.2.1+(1:Int)≤(9223372036854775807:Int))∧True∧l.getD i.toNat ((0:Int),(0:Int),(0
    : Int),[])=(q0d (l,i,n,e,a) k s).1∧(y.1,y.2.1+(1:Int),y.2.2)=(q0d (l,i,n,e,a) k s).2 else bif !s==[] then bif !(l.getD i.toNat ((0:Int),(0:Int),(0:Int),
    [])).2.2.2==s then True∧∀ (r:Unit) (y:List (Int×Int×Int×List UInt8)×Int×Int×Int×Int),((),q0y (l,i,n,e,a) (5:Int) (l.getD i.toNat ((0:Int),(0:Int),(0 :
    Int),[])).2.1)=(r,y)→((-9223372036854775808:Int)≤y.2.1+(1:Int)∧y.2.1+(1:Int)≤(9223372036854775807:Int))∧True∧l.getD i.toNat ((0:Int),(0:Int),(0:Int),[])
    = (q0d (l,i,n,e,a) k s).1∧(y.1,y.2.1+(1:Int),y.2.2)=(q0d (l,i,n,e,a) k s).2 else ((-9223372036854775808:Int)≤i+(1:Int)∧i+(1:Int)≤(9223372036854775807 :
    Int))∧True∧l.getD i.toNat ((0:Int),(0:Int),(0:Int),[])=(q0d (l,i,n,e,a) k s).1∧(l,i+(1:Int),n,e,a)=(q0d (l,i,n,e,a) k s).2 else ((-9223372036854775808
    : Int)≤i+(1:Int)∧i+(1:Int)≤(9223372036854775807:Int))∧True∧l.getD i.toNat ((0:Int),(0:Int),(0:Int),[])=(q0d (l,i,n,e,a) k s).1∧(l,i+(1:Int),n,e,
    a)=(q0d (l,i,n,e,a) k s).2
     := by
  simp only [true_and,and_true];obtain ⟨h1,_,h0,hi⟩:=h;have h1:l.length≤1000000:=h1;have h0:0≤i:=h0;have hi:i≤l.length:=hi;have hf:∀ p q,(q0y (l,i,n,e,a) p q).2.1=i:=λp q=>by unfold q0y;dsimp only;cases e==0 <;> rfl
  unfold q0d;dsimp only;refine bifP (λc=>?_) λc=>?_
  · rw [c]
    rintro r y ⟨⟩;exact ⟨rfl,rfl⟩
  rw [c];have c:=of_decide_eq_false c;refine ⟨⟨h0,by omega⟩,bifP (λd=>?_) λd=>bifP (λd2=>bifP (λd3=>?_) λd3=>?_) λd2=>?_⟩
  · rintro r y hy
    have hy:q0y (l,i,n,e,a) 5 (l.getD i.toNat (0,0,0,[])).2.1=y:=(QC hy).2;subst hy;refine ⟨by rw [hf];omega,rfl,?_⟩
    rw [show ((l.getD i.toNat tok0).1==k)=false by simpa using d]
    rfl
  · rintro r y hy
    have hy:q0y (l,i,n,e,a) 5 (l.getD i.toNat (0,0,0,[])).2.1=y:=(QC hy).2;subst hy;refine ⟨by rw [hf];omega,rfl,?_⟩
    rw [show ((l.getD i.toNat tok0).1==k)=true by simpa using d,d2,d3]
    rfl
  · refine ⟨by omega,rfl,?_⟩
    rw [show ((l.getD i.toNat tok0).1==k)=true by simpa using d,d2,d3]
    rfl
  · refine ⟨by omega,rfl,?_⟩
    rw [show ((l.getD i.toNat tok0).1==k)=true by simpa using d,d2]
    rfl
theorem take_len {x:RdP} (h:okRd x) (k:Int) (s:List UInt8):(q0d x k s).1.2.2.2.length≤1000000000:=by
 obtain ⟨h1,h2,h0,hi⟩:=h;unfold q0d;cases hc:decide ((x.1.length:Int)≤x.2.1)
 ·have hc:=of_decide_eq_false hc
  show (x.1.getD x.2.1.toNat tok0).2.2.2.length≤_;exact h2 _ (Qt (getD_some x.1 tok0 x.2.1.toNat (by omega)))
 ·exact Qe _
set_option maxRecDepth 100000 in
theorem gRText_vc (l:List Rul.TP) (i n e a lo hi:Int) (h:okRd (l,i,n,e,a)) :
    okRd (l,i,n,e,a)∧∀ (r:Int×Int×Int×List UInt8) (y:List (Int×Int×Int×List UInt8)×Int×Int×Int×Int),q0d (l,i,n,e,a) (3:Int) []=(r,y)→r.2.2.2.length ≤
    (1000000000:Nat)∧bif !Rul.q0e r.2.2.2 lo hi then True∧∀ (r_1:Unit) (y_1:List (Int×Int×Int×List UInt8)×Int×Int×Int×Int),((),q0y y (1:Int) r.2.1)=(r_1,y_1)
    → True∧r.2.2.2=(q0d (l,i,n,e,a) (3:Int) []).1.2.2.2∧y_1=bif Rul.q0e (q0d (l,i,n,e,a) (3:Int) []).1.2.2.2 lo hi then (q0d (l,i,n,e,a) (3:Int) []).2 else
    q0y (q0d (l,i,n,e,a) (3:Int) []).2 (1:Int) (q0d (l,i,n,e,a) (3:Int) []).1.2.1 else True∧r.2.2.2=(q0d (l,i,n,e,a) (3:Int) []).1.2.2.2∧y=bif Rul.q0e
    (q0d (l,i,n,e,a) (3:Int) []).1.2.2.2 lo hi then (q0d (l,i,n,e,a) (3:Int) []).2 else q0y (q0d (l,i,n,e,a) (3:Int) []).2 (1:Int) (q0d (l,i,n,e,a) (3:Int)
    []).1.2.1
     := by
  simp only [true_and,and_true];refine ⟨h,?_⟩;rintro r y hry;have hr:r.2.2.2.length≤1000000000:=by
    have:r=(q0d (l,i,n,e,a) 3 []).1:=by rw [hry]
    rw [this];exact take_len h 3 []
  rw [hry];refine ⟨hr,bifP (λc=>?_) λc=>?_⟩
  · rintro _ z hz
    have hz:q0y y 1 r.2.1=z:=(QC hz).2;rw [show Rul.q0e r.2.2.2 lo hi=false by simpa using c]
    exact ⟨rfl,hz.symm⟩
  · rw [show Rul.q0e r.2.2.2 lo hi=true by simpa using c]
    exact ⟨rfl,rfl⟩
end Go.Proofs.YtlmbfijhkcmncaaGreatDoor

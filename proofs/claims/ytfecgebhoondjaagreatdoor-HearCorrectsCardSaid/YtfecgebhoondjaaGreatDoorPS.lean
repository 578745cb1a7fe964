/-
  Several texts in one: SzBR, SzCR, HfJ, HfE, HeS, HeT, HgA, HgB, R15N.
-/
import Derived.Test.YtfecgebhoondjaaGreatDoorPR
import Derived.Test.YtfecgebhoondjaaGreatDoorPP
import Derived.Test.YtfecgebhoondjaaGreatDoorPK
import Derived.OpenShut
set_option linter.unusedVariables false
namespace Go.Proofs.YtfecgebhoondjaaGreatDoor
open Go.RowKit R
set_option maxRecDepth 100000 in
theorem rlet_vc (s:List UInt8) (lo hi:Int) (h:cRLet.pre (s,lo,hi)) :
  (∃ (p':Nat),(p'≤s.length∧(List.take p' s).all Snd.letB=true)∧((0:Int)=(p':Int)∧s=s∧lo=lo∧hi=hi∧True)∧True∧True∧True∧True∧True∧True∧True∧True ∧
  True)∧∀ (p:Nat),p≤s.length∧(List.take p s).all Snd.letB=true→bif decide ((p:Int)<(s.length:Int)) then bif decide ((p:Int)≤hi) then ((0:Int)≤(p:Int)∧(↑p :
  Int)<(s.length:Int))∧bif decide ((↑(s.getD (p:Int).toNat (0:UInt8)).toNat:Int)<(97:Int)) then false=Snd.q0d s lo hi else ((0:Int)≤(p:Int)∧(p:Int) <
  (s.length:Int))∧bif decide ((122:Int)<(↑(s.getD (p:Int).toNat (0:UInt8)).toNat:Int)) then false=Snd.q0d s lo hi else ((-9223372036854775808:Int)≤(p:Int)+(1 :
  Int)∧(p:Int)+(1:Int)≤(9223372036854775807:Int))∧∃ (p':Nat),(p'≤s.length∧(List.take p' s).all Snd.letB=true)∧s.length-p'<s.length-p∧((p:Int)+(1:Int) =
  (p':Int)∧s=s∧lo=lo∧hi=hi∧True)∧True∧True∧True∧True∧True∧True∧True∧True∧True else bif decide (lo≤(s.length:Int)) then decide ((s.length:Int)≤hi) =
  Snd.q0d s lo hi else false=Snd.q0d s lo hi else bif decide (lo≤(s.length:Int)) then decide ((s.length:Int)≤hi)=Snd.q0d s lo hi else false=Snd.q0d s lo hi
  := by
 have h:s.length≤1000000:=h;simp only [true_and,and_true];refine ⟨⟨0,⟨Nat.zero_le _,rfl⟩,rfl⟩,?_⟩;rintro p ⟨hp,ha⟩;have hti:((p:Int).toNat)=p:=rfl;simp only [hti];have fin:(s.length≤p∨hi<(p:Int))→bif decide (lo≤(s.length:Int)) then decide ((s.length:Int)≤hi)=Snd.q0d s lo hi else false=Snd.q0d s lo hi:=λhle=>by
  have hv:(decide (lo≤(s.length:Int))&&decide ((s.length:Int)≤hi))=Snd.q0d s lo hi:=by
   unfold Snd.q0d;rcases hle with hle | hle
   ·rw [Snd.q5p s _ p hle] at ha
    rw [ha,Bool.true_and]
   ·rw [decide_eq_false (p:=(s.length:Int)≤hi) (by omega),Bool.and_false,Bool.and_false]
  refine bifP (λhb=>?_) λhb=>?_
  ·rw [← hv,hb,Bool.true_and]
  ·rw [← hv,hb,Bool.false_and]
 refine bifP (λhb=>?_) λhb=>fin (.inl (by have:=of_decide_eq_false hb;omega))
 have hlt:p<s.length:=by have:=of_decide_eq_true hb;omega
 refine bifP (λhb=>?_) λhb=>fin (.inr (by have:=of_decide_eq_false hb;omega))
 have no:Snd.letB (s.getD p 0)=false→false=Snd.q0d s lo hi:=λhf=>by
  unfold Snd.q0d;rw [Snd.q63 s 0 _ p hlt hf,Bool.false_and]
 refine ⟨⟨by omega,by omega⟩,bifP (λhb=>no ?_) λh1=>⟨⟨by omega,by omega⟩,bifP (λhb=>no ?_) λh2=>⟨⟨by omega,by omega⟩,p+1,⟨by omega,?_⟩,by omega,by omega⟩⟩⟩
 ·rw [Snd.qj5,hb];rfl
 ·rw [Snd.qj5,hb,Bool.and_comm];rfl
 ·rw [Snd.q3r s 0 _ p hlt,ha,Snd.qj5,h1,h2];rfl
abbrev q43 (c:CfP) (p:Nat):Prop :=
 (0≤(p:Int)∧(p:Int)<(↑(List.length c):Int))
abbrev q94 (c:CfP) (p:Nat) (p':Nat):Prop :=
 (p'≤(p:Int).toNat∧(List.take p' c).any (Snd.same (List.getD c (p:Int).toNat ([],[])))=false)
abbrev q7a (c:CfP) (p_1:Nat):Prop :=
 (0≤(p_1:Int)∧(p_1:Int)<(↑(List.length c):Int))
set_option maxRecDepth 100000 in
theorem rproper_vc (c:CfP) (h:qiz.pre c) :
  bif decide ((200:Int)<(↑(List.length c):Int)) then false=Snd.q0j c else (∃ (p':Nat),(p'≤List.length c∧(List.take p' c).all Snd.okC=true∧Snd.fresh (List.take p' c)=true)∧((0:Int)=(p':Int)∧c=c∧True)∧True∧True∧True∧True∧True∧True∧True∧True∧True)∧∀ (p:Nat),p≤List.length c∧(List.take p c).all Snd.okC=true∧Snd.fresh (List.take p c)=true→bif decide ((p:Int)<(↑(List.length c):Int)) then (q43 c p)∧(List.getD c (p:Int).toNat ([],[])).1.length≤(1000000:Nat)∧bif !Snd.q0d (List.getD c (p:Int).toNat ([],[])).1 (1:Int) (3:Int) then false=Snd.q0j c else (q43 c p)∧(List.getD c (p:Int).toNat ([],[])).2.length≤(1000000:Nat)∧bif !Snd.q0d (List.getD c (p:Int).toNat ([],[])).2 (1:Int) (3:Int) then false=Snd.q0j c else (q43 c p)∧(q43 c p)∧bif (List.getD c (p:Int).toNat ([],[])).1==(List.getD c (p:Int).toNat ([],[])).2 then false=Snd.q0j c else (∃ (p':Nat),(q94 c p p')∧((0:Int)=(p':Int)∧c=c∧(p:Int)=(p:Int)∧True)∧True∧True∧True∧True∧True∧True∧True∧True∧True)∧∀ (p_1:Nat),p_1≤(p:Int).toNat∧(List.take p_1 c).any (Snd.same (List.getD c (p:Int).toNat ([],[])))=false→bif decide ((p_1:Int)<(p:Int)) then (q7a c p_1)∧(q43 c p)∧bif (List.getD c (p_1:Int).toNat ([],[])).1==(List.getD c (p:Int).toNat ([],[])).1 then (q7a c p_1)∧(q43 c p)∧bif (List.getD c (p_1:Int).toNat ([],[])).2==(List.getD c (p:Int).toNat ([],[])).2 then false=Snd.q0j c else (q7a c p_1)∧(q43 c p)∧bif (List.getD c (p_1:Int).toNat ([],[])).1==(List.getD c (p:Int).toNat ([],[])).2 then (q7a c p_1)∧(q43 c p)∧bif (List.getD c (p_1:Int).toNat ([],[])).2==(List.getD c (p:Int).toNat ([],[])).1 then false=Snd.q0j c else (zFit ((p_1:Int)+1))∧∃ (p':Nat),(q94 c p p')∧(p:Int).toNat-p'<(p:Int).toNat-p_1∧((p_1:Int)+1=(p':Int)∧c=c∧(p:Int)=(p:Int)∧True)∧True∧True∧True∧True∧True∧True∧True∧True∧True else (zFit ((p_1:Int)+1))∧∃ (p':Nat),(q94 c p p')∧(p:Int).toNat-p'<(p:Int).toNat-p_1∧((p_1:Int)+1=(p':Int)∧c=c∧(p:Int)=(p:Int)∧True)∧True∧True∧True∧True∧True∧True∧True∧True∧True else (q7a c p_1)∧(q43 c p)∧bif (List.getD c (p_1:Int).toNat ([],[])).1==(List.getD c (p:Int).toNat ([],[])).2 then (q7a c p_1)∧(q43 c p)∧bif (List.getD c (p_1:Int).toNat ([],[])).2==(List.getD c (p:Int).toNat ([],[])).1 then false=Snd.q0j c else (zFit ((p_1:Int)+1))∧∃ (p':Nat),(q94 c p p')∧(p:Int).toNat-p'<(p:Int).toNat-p_1∧((p_1:Int)+1=(p':Int)∧c=c∧(p:Int)=(p:Int)∧True)∧True∧True∧True∧True∧True∧True∧True∧True∧True else (zFit ((p_1:Int)+1))∧∃ (p':Nat),(q94 c p p')∧(p:Int).toNat-p'<(p:Int).toNat-p_1∧((p_1:Int)+1=(p':Int)∧c=c∧(p:Int)=(p:Int)∧True)∧True∧True∧True∧True∧True∧True∧True∧True∧True else (zFit ((p:Int)+1))∧∃ (p':Nat),(p'≤List.length c∧(List.take p' c).all Snd.okC=true∧Snd.fresh (List.take p' c)=true)∧List.length c-p'<List.length c-p∧((p:Int)+1=(p':Int)∧c=c∧True)∧True∧True∧True∧True∧True∧True∧True∧True∧True else true=Snd.q0j c:=by
 delta q43 q94 q7a zFit
 obtain ⟨hn,hq⟩:=h;have hn:c.length≤1000000:=hn;simp only [true_and,and_true];have vno:(c.length≤200→c.all Snd.okC=true→Snd.fresh c=true→False)→false=Snd.q0j c:=λh=>by
  symm
  unfold Snd.q0j;rw [← Bool.not_eq_true];intro hh;simp only [Bool.and_eq_true,decide_eq_true_eq] at hh;exact h hh.1 hh.2.1 hh.2.2
 refine bifP (λhb=>vno λh1=>by have:=of_decide_eq_true hb;omega) λh200=>⟨⟨0,⟨Nat.zero_le _,rfl,rfl⟩,rfl⟩,?_⟩
 rintro p ⟨hp,ha,hf⟩;have hti:((p:Int).toNat)=p:=rfl;simp only [hti];refine bifP (λhb=>?_) λhb=>?_
 ·have hlt:p<c.length:=by have:=of_decide_eq_true hb;omega
  have hqp:=hq _ (Snd.q1k c ([],[]) p hlt);have bad:Snd.okC (c.getD p ([],[]))=false→false=Snd.q0j c:=λhf=>vno λ_ h2 _=>by
   rw [Snd.q63 c ([],[]) _ p hlt hf] at h2;cases h2
  have dup:(c.take p).any (Snd.same (c.getD p ([],[])))=true→false=Snd.q0j c:=λhf=>vno λ_ _ h3=>by
   rw [Snd.fresh_no c ([],[]) p hlt hf] at h3;cases h3
  have hall:=Snd.q3r c ([],[]) Snd.okC p hlt;have hfr:=Snd.qdu c ([],[]) p hlt;generalize hx:c.getD p ([],[])=x at *
  refine ⟨⟨by omega,by omega⟩,hqp.1,bifP (λhb=>bad ?_) λh1=>⟨⟨by omega,by omega⟩,hqp.2,bifP (λhb=>bad ?_) λh2=>⟨⟨by omega,by omega⟩,⟨by omega,by omega⟩,bifP (λhb=>bad ?_) λh3=>?_⟩⟩⟩
  ·unfold Snd.okC;rw [show Snd.q0d x.1 1 3=false by simpa using hb];rfl
  ·unfold Snd.okC;rw [show Snd.q0d x.2 1 3=false by simpa using hb,Bool.false_and,Bool.and_false]
  ·unfold Snd.okC;rw [show (x.1==x.2)=true from hb];simp
  have hok:Snd.okC x=true:=by
   unfold Snd.okC;rw [show Snd.q0d x.1 1 3=true by simpa using h1,show Snd.q0d x.2 1 3=true by simpa using h2,show (x.1==x.2)=false from h3];rfl
  refine ⟨⟨0,⟨Nat.zero_le _,rfl⟩,rfl⟩,?_⟩;rintro k ⟨hk,hno⟩;have htk:((k:Int).toNat)=k:=rfl;simp only [htk];refine bifP (λhb=>?_) λhb=>?_
  ·have hkp:k<p:=by have:=of_decide_eq_true hb;omega
   have hkl:k<(c.take p).length:=by rw [List.length_take];omega
   have hgk:(c.take p).getD k ([],[])=c.getD k ([],[]):=by
    rw [List.getD_eq_getElem?_getD,List.getD_eq_getElem?_getD,List.getElem?_take,if_pos hkp]
   have hst:=Snd.qej c ([],[]) (Snd.same x) k (by omega)
   have hyes:Snd.same x (c.getD k ([],[]))=true→(c.take p).any (Snd.same x)=true:=λh=>Snd.any_yes (c.take p) ([],[]) _ k hkl (by rw [hgk];exact h)
   generalize c.getD k ([],[])=y at *
   have hsm:Snd.same x y=((y.1==x.1&&y.2==x.2)||(y.1==x.2&&y.2==x.1)):=by rw [Snd.qbz,Snd.same_val]
   rw [hno,Bool.false_or] at hst;have nxt:Snd.same x y=false→(-9223372036854775808≤(k:Int)+1∧(k:Int)+1≤9223372036854775807)∧∃ p',(p'≤p∧(c.take p').any (Snd.same x)=false)∧p-p'<p-k∧(k:Int)+1=(p':Int):=λh=>⟨⟨by omega,by omega⟩,k+1,⟨by omega,by rw [hst];exact h⟩,by omega,by omega⟩
   refine ⟨⟨by omega,by omega⟩,⟨by omega,by omega⟩,bifP (λe1=>⟨⟨by omega,by omega⟩,⟨by omega,by omega⟩,bifP (λe2=>dup (hyes ?_)) λe2=>⟨⟨by omega,by omega⟩,⟨by omega,by omega⟩,bifP (λe3=>⟨⟨by omega,by omega⟩,⟨by omega,by omega⟩,bifP (λe4=>dup (hyes ?_)) λe4=>nxt ?_⟩) λe3=>nxt ?_⟩⟩) λe1=>⟨⟨by omega,by omega⟩,⟨by omega,by omega⟩,bifP (λe3=>⟨⟨by omega,by omega⟩,⟨by omega,by omega⟩,bifP (λe4=>dup (hyes ?_)) λe4=>nxt ?_⟩) λe3=>nxt ?_⟩⟩
   ·rw [hsm,e1,e2];rfl
   ·rw [hsm,e3,e4];simp
   ·rw [hsm,e2,e4];simp
   ·rw [hsm,e2,e3];simp
   ·rw [hsm,e3,e4];simp
   ·rw [hsm,e1,e4];simp
   ·rw [hsm,e1,e3];simp
  ·have hkp:k=p:=by have:=of_decide_eq_false hb;omega
   subst hkp;refine ⟨⟨by omega,by omega⟩,k+1,⟨by omega,by rw [hall,ha,hok];rfl,by rw [hfr,hf,hno];rfl⟩,by omega,by omega⟩
 ·have hle:c.length≤p:=by have:=of_decide_eq_false hb;omega
  rw [Snd.q5p c _ p hle] at ha;rw [List.take_of_length_le hle] at hf;unfold Snd.q0j;rw [ha,hf,decide_eq_true (p:=c.length≤200) (by have:=of_decide_eq_false h200;omega)]
  rfl
set_option maxRecDepth 100000 in
theorem rrep_vc (x y a b:List UInt8) (h:cRRep.pre (x,y,a,b)) :
  (∃ (p':Nat),(p'≤x.length+(1:Nat)∧∀ (j:Nat),j<p'→Snd.q6j x y a b j=false)∧((0:Int)=(p':Int)∧x=x∧y=y∧a=a∧b=b∧True)∧True∧True∧True∧True
  ∧ True∧True∧True∧True∧True)∧∀ (p:Nat),(p≤x.length+(1:Nat)∧∀ (j:Nat),j<p→Snd.q6j x y a b j=false)→((-9223372036854775808:Int)≤(p:Int)+(↑a.length :
  Int)∧(p:Int)+(a.length:Int)≤(9223372036854775807:Int))∧bif decide ((p:Int)+(a.length:Int)≤(x.length:Int)) then ((-9223372036854775808:Int)≤(p:Int) +
  (a.length:Int)∧(p:Int)+(a.length:Int)≤(9223372036854775807:Int))∧((0:Int)≤(p:Int)∧(p:Int)≤(p:Int)+(a.length:Int)∧(p:Int)+(a.length:Int) ≤
  (x.length:Int))∧bif List.drop (p:Int).toNat (List.take ((p:Int)+(a.length:Int)).toNat x)==a then ((0:Int)≤(0:Int)∧(0:Int)≤(p:Int)∧(p:Int)≤(↑x.length :
  Int))∧(List.drop (Int.toNat (0:Int)) (List.take (p:Int).toNat x)).length+b.length≤(9223372036854775807:Nat)∧((-9223372036854775808:Int)≤(p:Int)+(a.length:Int) ∧
  (p:Int)+(a.length:Int)≤(9223372036854775807:Int))∧((0:Int)≤(p:Int)+(a.length:Int)∧(p:Int)+(a.length:Int)≤(x.length:Int)∧(x.length:Int) ≤
  (x.length:Int))∧(List.drop (Int.toNat (0:Int)) (List.take (p:Int).toNat x)++b).length+(List.drop ((p:Int)+(a.length:Int)).toNat (List.take (x.length:Int).toNat
  x)).length≤(9223372036854775807:Nat)∧bif List.drop (Int.toNat (0:Int)) (List.take (p:Int).toNat x)++b++List.drop ((p:Int)+(a.length:Int)).toNat (List.take (↑x.length :
  Int).toNat x)==y then true=Snd.repB x y a b else ((-9223372036854775808:Int)≤(p:Int)+(1:Int)∧(p:Int)+(1:Int)≤(9223372036854775807:Int))∧∃ (p':Nat),(p' ≤
  x.length+(1:Nat)∧∀ (j:Nat),j<p'→Snd.q6j x y a b j=false)∧x.length+(1:Nat)-p'<x.length+(1:Nat)-p∧((p:Int)+(1:Int)=(p':Int)∧x=x∧y=y∧a =
  a∧b=b∧True)∧True∧True∧True∧True∧True∧True∧True∧True∧True else ((-9223372036854775808:Int)≤(p:Int)+(1:Int)∧(p:Int)+(1:Int)≤(9223372036854775807 :
  Int))∧∃ (p':Nat),(p'≤x.length+(1:Nat)∧∀ (j:Nat),j<p'→Snd.q6j x y a b j=false)∧x.length+(1:Nat)-p'<x.length+(1:Nat)-p∧((p:Int)+(1:Int)=(↑p'
  : Int)∧x=x∧y=y∧a=a∧b=b∧True)∧True∧True∧True∧True∧True∧True∧True∧True∧True else false=Snd.repB x y a b
  := by
 obtain ⟨hx,ha,hbl⟩:=h;have hx:x.length≤1000000:=hx;have ha:a.length≤1000000:=ha;have hbl:b.length≤1000000:=hbl;simp only [true_and,and_true];refine ⟨⟨0,⟨Nat.zero_le _,λj hj=>by omega⟩,rfl⟩,?_⟩
 rintro p ⟨hp,hno⟩;refine ⟨⟨by omega,by omega⟩,bifP (λhb=>?_) λhb=>?_⟩
 ·have hle:p+a.length≤x.length:=by have:=of_decide_eq_true hb;omega
  have e1:List.drop p (List.take (p+a.length) x)=(x.drop p).take a.length:=by rw [List.drop_take,Nat.add_sub_cancel_left]
  have e3:List.drop (p+a.length) (List.take x.length x)=x.drop (p+a.length):=by rw [List.take_length]
  have hat:Snd.q6j x y a b p=((x.drop p).take a.length==a&&x.take p++b++x.drop (p+a.length)==y):=by
   unfold Snd.q6j;rw [decide_eq_true hle,Bool.true_and]
  have nxt:Snd.q6j x y a b p=false→(-9223372036854775808≤(p:Int)+1∧(p:Int)+1≤9223372036854775807)∧∃ p',(p'≤x.length+1∧∀ j,j<p'→Snd.q6j x y a b j=false)∧x.length+1-p'<x.length+1-p∧(p:Int)+1=(p':Int):=λh=>⟨⟨by omega,by omega⟩,p+1,⟨by omega,λj hj=>by
   by_cases e:j=p
   ·subst e;exact h
   ·exact hno j (by omega)⟩,by omega,by omega⟩
  refine ⟨⟨by omega,by omega⟩,⟨by omega,by omega,by omega⟩,bifP (λh1=>?_) λh1=>nxt ?_⟩
  ·have h1:((x.drop p).take a.length==a)=true:=by rw [← e1];exact h1
   refine ⟨⟨by omega,by omega,by omega⟩,?_,⟨by omega,by omega⟩,⟨by omega,by omega,by omega⟩,?_,bifP (λh2=>?_) λh2=>nxt ?_⟩
   ·rw [List.length_drop,List.length_take];omega
   ·rw [List.length_append,List.length_drop,List.length_take,List.length_drop,List.length_take];omega
   ·have h2:(x.take p++b++x.drop (p+a.length)==y)=true:=by rw [← e3];exact h2
    symm
    unfold Snd.repB;rw [List.any_eq_true];exact ⟨p,List.mem_range.2 (by omega),by rw [hat,h1,h2];rfl⟩
   ·have h2:(x.take p++b++x.drop (p+a.length)==y)=false:=by rw [← e3];exact h2
    rw [hat,h2,Bool.and_false]
  ·have h1:((x.drop p).take a.length==a)=false:=by rw [← e1];exact h1
   rw [hat,h1,Bool.false_and]
 ·have hgt:x.length<p+a.length:=by have:=of_decide_eq_false hb;omega
  symm
  unfold Snd.repB;rw [← Bool.not_eq_true,List.any_eq_true];rintro ⟨i,_,hi⟩;by_cases e:i<p
  ·rw [hno i e] at hi;cases hi
  ·unfold Snd.q6j at hi
   rw [decide_eq_false (by omega)] at hi;cases hi
set_option maxRecDepth 100000 in
theorem rsounds_vc (c:CfP) (x y:List UInt8) (h:qjb.pre (c,x,y)) :
  bif x==y then true=Snd.q1a c x y else (∃ (p':Nat),(p'≤List.length c∧(List.take p' c).any (Snd.hitB x y)=false)∧((0:Int)=(p':Int)∧c=c∧x=x∧y=y∧True) ∧
  True∧True∧True∧True∧True∧True∧True∧True∧True)∧∀ (p:Nat),p≤List.length c∧(List.take p c).any (Snd.hitB x y)=false→bif decide ((p:Int)<(↑(List.length c) :
  Int)) then ((0:Int)≤(p:Int)∧(p:Int)<(↑(List.length c):Int))∧((0:Int)≤(p:Int)∧(p:Int)<(↑(List.length c):Int))∧(x.length≤(1000000:Nat)∧(List.getD c
  (p:Int).toNat ([],[])).1.length≤(1000000:Nat)∧(List.getD c (p:Int).toNat ([],[])).2.length≤(1000000:Nat))∧bif Snd.repB x y (List.getD c (p:Int).toNat ([],[])).1
  (List.getD c (p:Int).toNat ([],[])).2 then true=Snd.q1a c x y else ((0:Int)≤(p:Int)∧(p:Int)<(↑(List.length c):Int))∧((0:Int)≤(p:Int)∧(p:Int) <
  (↑(List.length c):Int))∧(x.length≤(1000000:Nat)∧(List.getD c (p:Int).toNat ([],[])).2.length≤(1000000:Nat)∧(List.getD c (p:Int).toNat ([],[])).1.length≤(1000000 :
  Nat))∧bif Snd.repB x y (List.getD c (p:Int).toNat ([],[])).2 (List.getD c (p:Int).toNat ([],[])).1 then true=Snd.q1a c x y else ((-9223372036854775808:Int)≤(p:Int) +
  (1:Int)∧(p:Int)+(1:Int)≤(9223372036854775807:Int))∧∃ (p':Nat),(p'≤List.length c∧(List.take p' c).any (Snd.hitB x y)=false)∧List.length c-p'<List.length c-p
  ∧ ((p:Int)+(1:Int)=(p':Int)∧c=c∧x=x∧y=y∧True)∧True∧True∧True∧True∧True∧True∧True∧True∧True else false=Snd.q1a c x y
  := by
 obtain ⟨⟨hn,hq⟩,hx,hy⟩:=h;have hn:c.length≤1000000:=hn;have hx:x.length≤1000000:=hx;simp only [true_and,and_true];refine bifP (λhb=>?_) λhxy=>⟨⟨0,⟨Nat.zero_le _,rfl⟩,rfl⟩,?_⟩
 ·unfold Snd.q1a;rw [hb];rfl
 rintro p ⟨hp,ha⟩;have hti:((p:Int).toNat)=p:=rfl;simp only [hti];have hxy:(x==y)=false:=hxy;refine bifP (λhb=>?_) λhb=>?_
 ·have hlt:p<c.length:=by have:=of_decide_eq_true hb;omega
  have hqp:=hq _ (Snd.q1k c ([],[]) p hlt);have yes:Snd.hitB x y (c.getD p ([],[]))=true→true=Snd.q1a c x y:=λh=>by
   unfold Snd.q1a;rw [Snd.any_yes c ([],[]) _ p hlt h,Bool.or_true]
  have hst:=Snd.qej c ([],[]) (Snd.hitB x y) p hlt;generalize c.getD p ([],[])=z at *
  refine ⟨⟨by omega,by omega⟩,⟨by omega,by omega⟩,⟨hx,hqp.1,hqp.2⟩,bifP (λh1=>yes ?_) λh1=>⟨⟨by omega,by omega⟩,⟨by omega,by omega⟩,⟨hx,hqp.2,hqp.1⟩,bifP (λh2=>yes ?_) λh2=>⟨⟨by omega,by omega⟩,p+1,⟨by omega,?_⟩,by omega,by omega⟩⟩⟩
  ·unfold Snd.hitB;rw [h1];rfl
  ·unfold Snd.hitB;rw [h2,Bool.or_true]
  ·rw [hst,ha];unfold Snd.hitB;rw [h1,h2];rfl
 ·have hle:c.length≤p:=by have:=of_decide_eq_false hb;omega
  rw [List.take_of_length_le hle] at ha;unfold Snd.q1a;rw [hxy,ha];rfl
set_option maxRecDepth 100000 in
theorem ralike_vc (c:CfP) (x y:List UInt8) (h:cRAlike.pre (c,x,y)) :
  q0p c∧bif Snd.q0j c then x.length≤(1000000:Nat)∧bif Snd.q0d x (1:Int) (12:Int) then y.length≤(1000000:Nat)∧bif Snd.q0d y (1:Int) (12:Int) then (q0p c
  ∧ x.length≤(1000000:Nat)∧y.length≤(1000000:Nat))∧Snd.q1a c x y=Snd.q0l c x y else false=Snd.q0l c x y else false=Snd.q0l c x y else false=Snd.q0l c x y
  := by
 obtain ⟨hL,hx,hy⟩:=h;have hx:x.length≤1000000:=hx;have hy:y.length≤1000000:=hy;unfold Snd.q0l Snd.q6b;refine ⟨hL,bifP (λh1=>⟨hx,bifP (λh2=>⟨hy,bifP (λh3=>⟨⟨hL,hx,hy⟩,?_⟩) λh3=>?_⟩) λh2=>?_⟩) λh1=>?_⟩
 ·rw [h1,h2,h3];rfl
 ·rw [h3];simp
 ·rw [h2];simp
 ·rw [h1];rfl
set_option maxRecDepth 100000 in
theorem qk6:cRLet.Holds Tryz.prog:=by
 refine q1j (cons:=[]) Tryz.func110 (by kernel_rfl) (by kernel_rfl) mixed (by kernel_rfl) (λc h=>by cases h) (λp=>anRLet p.1) λp hp=>?_
 obtain ⟨s,lo,hi⟩:=p;refine cast ?_ (rlet_vc s lo hi hp)
 kernel_rfl
set_option maxRecDepth 100000 in
theorem qkz:qiz.Holds Tryz.prog:=by
 refine q1j (cons:=[cRLet]) Tryz.func70 (by kernel_rfl) (by kernel_rfl) mixed (by kernel_rfl) (λc h=>by obtain rfl:=List.mem_singleton.1 h;exact qk6) (λp=>anRProper p) λp hp=>?_
 refine cast ?_ (rproper_vc p hp)
 kernel_rfl
set_option maxRecDepth 100000 in
theorem rrep_holds:cRRep.Holds Tryz.prog:=by
 refine q1j (cons:=[]) Tryz.func146 (by kernel_rfl) (by kernel_rfl) mixed (by kernel_rfl) (λc h=>by cases h) (λp=>anRRep p.1 p.2.1 p.2.2.1 p.2.2.2) λp hp=>?_
 obtain ⟨x,y,a,b⟩:=p;refine cast ?_ (rrep_vc x y a b hp)
 kernel_rfl
set_option maxRecDepth 100000 in
theorem qkv:qjb.Holds Tryz.prog:=by
 refine q1j (cons:=[cRRep]) Tryz.func111 (by kernel_rfl) (by kernel_rfl) mixed (by kernel_rfl) (λc h=>by obtain rfl:=List.mem_singleton.1 h;exact rrep_holds) (λp=>anRSounds p.1 p.2.1 p.2.2) λp hp=>?_
 obtain ⟨c,x,y⟩:=p;refine cast ?_ (rsounds_vc c x y hp)
 kernel_rfl
set_option maxRecDepth 100000 in
theorem ralike_holds:cRAlike.Holds Tryz.prog:=by
 refine q1j (cons:=[qiz,cRLet,qjb]) Tryz.func59 (by kernel_rfl) (by kernel_rfl) mixed (by kernel_rfl) (λc h=>by
  rcases List.mem_cons.1 h with rfl | h
  ·exact qkz
  rcases List.mem_cons.1 h with rfl | h
  ·exact qk6
  ·obtain rfl:=List.mem_singleton.1 h;exact qkv) (λ_=>[]) λp hp=>?_
 obtain ⟨c,x,y⟩:=p;refine cast ?_ (ralike_vc c x y hp)
 kernel_rfl
end Go.Proofs.YtfecgebhoondjaaGreatDoor
namespace Go.Proofs.YtfecgebhoondjaaGreatDoor
open Go.RowKit
namespace Hea
theorem mis_hit {al:Str→Str→Bool} {own words:List Str} {i:Nat} (hne:(own==words)=false) (hi:i<own.length) (h:q3m al own words i=true):true=misR al own words:=by
 unfold misR;rw [hne,List.any_eq_true.2 ⟨i,List.mem_range.2 hi,h⟩];rfl
theorem mis_none {al:Str→Str→Bool} {own words:List Str} (h:∀ j,j<own.length→q3m al own words j=false):false=misR al own words:=by
 unfold misR;have:(List.range own.length).any (q3m al own words)=false:=List.any_eq_false.2 λj hj=>by rw [h j (List.mem_range.1 hj)];simp
 rw [this,Bool.and_false]
end Hea
open R
abbrev q9p (c:CfP) (code:List Int) (p:Nat) (p':Nat) (words:List (List UInt8)) (ws:List (List UInt8)):Prop :=
 ((p:Int)+1=(p':Int)∧c=c∧code=code∧words=words∧True∧Hea.ownW ws code=Hea.ownW ws code∧True)
abbrev q7r (c:CfP) (code:List Int) (p':Nat) (words:List (List UInt8)) (ws:List (List UInt8)):Prop :=
 (p'≤code.length∧∀ (j:Nat),j<p'→Hea.q3m (Snd.q0l c) (Hea.ownW ws code) words j=false)
abbrev qgk (code:List Int) (p:Nat) (ws:List (List UInt8)):Prop :=
 (0≤(p:Int)∧(p:Int)<(↑(([]++Hea.ownW ws code).set ((p:Int)-1).toNat ((Hea.ownW ws code).getD (p:Int).toNat [])).length:Int))
set_option maxRecDepth 100000 in
theorem misR_vc (lang:List UInt8) (ws:List (List UInt8)) (c:CfP) (code:List Int) (words:List (List UInt8)) (h:cMisR.pre ((lang,ws),c,code,words)) :
  (code.length≤(1000000:Nat)∧Cod.inB ws.length code=true)∧bif Hea.ownW ws code==words then false=Hea.misR (Snd.q0l c) (Hea.ownW ws code) words else ((∃ (p':Nat),p'≤code.length∧(True∧(0:Int)=(p':Int)∧c=c∧code=code∧words=words∧True∧True)∧((lang=lang∧ws=ws∧True)∧True)∧(Hea.ownW ws (List.take p' code)=[]∧True)∧True∧True∧True∧True∧True∧True∧True)∧∀ (p:Nat),p≤code.length→bif decide ((p:Int)<(code.length:Int)) then (0≤(p:Int)∧(p:Int)<(code.length:Int))∧((0:Int)≤code.getD (p:Int).toNat (0:Int)∧code.getD (p:Int).toNat 0<(ws.length:Int))∧((Hea.ownW ws (List.take p code)).length+[ws.getD (code.getD (p:Int).toNat (0:Int)).toNat []].length)*(16:Nat)≤(140737488355328:Nat)∧(zFit ((p:Int)+1))∧∃ (p':Nat),p'≤code.length∧code.length-p'<code.length-p∧(True∧(p:Int)+1=(p':Int)∧c=c∧code=code∧words=words∧True∧True)∧((lang=lang∧ws=ws∧True)∧True)∧(Hea.ownW ws (List.take p code)++[ws.getD (code.getD (p:Int).toNat (0:Int)).toNat []]=Hea.ownW ws (List.take p' code)∧True)∧True∧True∧True∧True∧True∧True∧True else ∃ (p':Unit),True∧(Hea.ownW ws (List.take p code)=Hea.ownW ws code∧c=c∧code=code∧words=words∧True∧True)∧((lang=lang∧ws=ws∧True)∧True)∧True∧True∧True∧True∧True∧True∧True∧True)∧∀ (p:Unit),True→(∃ (p':Nat),(q7r c code p' words ws)∧((0:Int)=(p':Int)∧c=c∧code=code∧words=words∧True∧Hea.ownW ws code=Hea.ownW ws code∧True)∧((lang=lang∧ws=ws∧True)∧True)∧True∧True∧True∧True∧True∧True∧True∧True)∧∀ (p:Nat),(p≤code.length∧∀ (j:Nat),j<p→Hea.q3m (Snd.q0l c) (Hea.ownW ws code) words j=false)→bif decide ((p:Int)<(↑(Hea.ownW ws code).length:Int)) then ((0:Int)≤0∧0≤(p:Int)∧(p:Int)≤(↑(Hea.ownW ws code).length:Int))∧(zFit ((p:Int)+1))∧(0≤(p:Int)+1∧(p:Int)+1≤(↑(Hea.ownW ws code).length:Int)∧(↑(Hea.ownW ws code).length:Int)≤(↑(Hea.ownW ws code).length:Int))∧(([]:List (List UInt8)).length+(List.drop (Int.toNat (0:Int)) (List.take (p:Int).toNat (Hea.ownW ws code))).length)*(16:Nat)≤(140737488355328:Nat)∧(([]++List.drop (Int.toNat (0:Int)) (List.take (p:Int).toNat (Hea.ownW ws code))).length+(List.drop ((p:Int)+1).toNat (List.take (↑(Hea.ownW ws code).length:Int).toNat (Hea.ownW ws code))).length)*(16:Nat)≤(140737488355328:Nat)∧([]++List.drop (Int.toNat (0:Int)) (List.take (p:Int).toNat (Hea.ownW ws code))++List.drop ((p:Int)+1).toNat (List.take (↑(Hea.ownW ws code).length:Int).toNat (Hea.ownW ws code))).length≤(1000000000000000:Nat)∧bif []++List.drop (Int.toNat (0:Int)) (List.take (p:Int).toNat (Hea.ownW ws code))++List.drop ((p:Int)+1).toNat (List.take (↑(Hea.ownW ws code).length:Int).toNat (Hea.ownW ws code))==words then true=Hea.misR (Snd.q0l c) (Hea.ownW ws code) words else bif decide ((p:Int)<(words.length:Int)) then (0≤(p:Int)∧(p:Int)<(↑(Hea.ownW ws code).length:Int))∧(0≤(p:Int)∧(p:Int)<(words.length:Int))∧(q0p c∧((Hea.ownW ws code).getD (p:Int).toNat []).length≤(1000000:Nat)∧(words.getD (p:Int).toNat []).length≤(1000000:Nat))∧bif Snd.q0l c ((Hea.ownW ws code).getD (p:Int).toNat []) (words.getD (p:Int).toNat []) then (([]:List (List UInt8)).length+(Hea.ownW ws code).length)*(16:Nat)≤(140737488355328:Nat)∧(0≤(p:Int)∧(p:Int)<(words.length:Int))∧(0≤(p:Int)∧(p:Int)<(↑([]++Hea.ownW ws code).length:Int))∧bif (p:Int).toNat.beq (p:Int).toNat then (([]++Hea.ownW ws code).set (p:Int).toNat (words.getD (p:Int).toNat [])).length≤(1000000000000000:Nat)∧bif ([]++Hea.ownW ws code).set (p:Int).toNat (words.getD (p:Int).toNat [])==words then true=Hea.misR (Snd.q0l c) (Hea.ownW ws code) words else bif decide (0<(p:Int)) then (([]:List (List UInt8)).length+(Hea.ownW ws code).length)*(16:Nat)≤(140737488355328:Nat)∧(zFit ((p:Int)-1))∧(0≤(p:Int)∧(p:Int)<(↑(Hea.ownW ws code).length:Int))∧(0≤(p:Int)-1∧(p:Int)-1<(↑([]++Hea.ownW ws code).length:Int))∧bif ((p:Int)-1).toNat.beq ((p:Int)-1).toNat then (zFit ((p:Int)-1))∧(0≤(p:Int)-1∧(p:Int)-1<(↑(Hea.ownW ws code).length:Int))∧(qgk code p ws)∧bif (p:Int).toNat.beq (p:Int).toNat then ((([]++Hea.ownW ws code).set ((p:Int)-1).toNat ((Hea.ownW ws code).getD (p:Int).toNat [])).set (p:Int).toNat ((Hea.ownW ws code).getD ((p:Int)-1).toNat [])).length≤(1000000000000000:Nat)∧bif (([]++Hea.ownW ws code).set ((p:Int)-1).toNat ((Hea.ownW ws code).getD (p:Int).toNat [])).set (p:Int).toNat ((Hea.ownW ws code).getD ((p:Int)-1).toNat [])==words then true=Hea.misR (Snd.q0l c) (Hea.ownW ws code) words else (zFit ((p:Int)+1))∧∃ (p':Nat),(q7r c code p' words ws)∧code.length-p'<code.length-p∧(q9p c code p p' words ws)∧((lang=lang∧ws=ws∧True)∧True)∧True∧True∧True∧True∧True∧True∧True∧True else False else False else (zFit ((p:Int)+1))∧∃ (p':Nat),(q7r c code p' words ws)∧code.length-p'<code.length-p∧(q9p c code p p' words ws)∧((lang=lang∧ws=ws∧True)∧True)∧True∧True∧True∧True∧True∧True∧True∧True else False else bif decide (0<(p:Int)) then (([]:List (List UInt8)).length+(Hea.ownW ws code).length)*(16:Nat)≤(140737488355328:Nat)∧(zFit ((p:Int)-1))∧(0≤(p:Int)∧(p:Int)<(↑(Hea.ownW ws code).length:Int))∧(0≤(p:Int)-1∧(p:Int)-1<(↑([]++Hea.ownW ws code).length:Int))∧bif ((p:Int)-1).toNat.beq ((p:Int)-1).toNat then (zFit ((p:Int)-1))∧(0≤(p:Int)-1∧(p:Int)-1<(↑(Hea.ownW ws code).length:Int))∧(qgk code p ws)∧bif (p:Int).toNat.beq (p:Int).toNat then ((([]++Hea.ownW ws code).set ((p:Int)-1).toNat ((Hea.ownW ws code).getD (p:Int).toNat [])).set (p:Int).toNat ((Hea.ownW ws code).getD ((p:Int)-1).toNat [])).length≤(1000000000000000:Nat)∧bif (([]++Hea.ownW ws code).set ((p:Int)-1).toNat ((Hea.ownW ws code).getD (p:Int).toNat [])).set (p:Int).toNat ((Hea.ownW ws code).getD ((p:Int)-1).toNat [])==words then true=Hea.misR (Snd.q0l c) (Hea.ownW ws code) words else (zFit ((p:Int)+1))∧∃ (p':Nat),(q7r c code p' words ws)∧code.length-p'<code.length-p∧(q9p c code p p' words ws)∧((lang=lang∧ws=ws∧True)∧True)∧True∧True∧True∧True∧True∧True∧True∧True else False else False else (zFit ((p:Int)+1))∧∃ (p':Nat),(q7r c code p' words ws)∧code.length-p'<code.length-p∧(q9p c code p p' words ws)∧((lang=lang∧ws=ws∧True)∧True)∧True∧True∧True∧True∧True∧True∧True∧True else bif decide (0<(p:Int)) then (([]:List (List UInt8)).length+(Hea.ownW ws code).length)*(16:Nat)≤(140737488355328:Nat)∧(zFit ((p:Int)-1))∧(0≤(p:Int)∧(p:Int)<(↑(Hea.ownW ws code).length:Int))∧(0≤(p:Int)-1∧(p:Int)-1<(↑([]++Hea.ownW ws code).length:Int))∧bif ((p:Int)-1).toNat.beq ((p:Int)-1).toNat then (zFit ((p:Int)-1))∧(0≤(p:Int)-1∧(p:Int)-1<(↑(Hea.ownW ws code).length:Int))∧(qgk code p ws)∧bif (p:Int).toNat.beq (p:Int).toNat then ((([]++Hea.ownW ws code).set ((p:Int)-1).toNat ((Hea.ownW ws code).getD (p:Int).toNat [])).set (p:Int).toNat ((Hea.ownW ws code).getD ((p:Int)-1).toNat [])).length≤(1000000000000000:Nat)∧bif (([]++Hea.ownW ws code).set ((p:Int)-1).toNat ((Hea.ownW ws code).getD (p:Int).toNat [])).set (p:Int).toNat ((Hea.ownW ws code).getD ((p:Int)-1).toNat [])==words then true=Hea.misR (Snd.q0l c) (Hea.ownW ws code) words else (zFit ((p:Int)+1))∧∃ (p':Nat),(q7r c code p' words ws)∧code.length-p'<code.length-p∧(q9p c code p p' words ws)∧((lang=lang∧ws=ws∧True)∧True)∧True∧True∧True∧True∧True∧True∧True∧True else False else False else (zFit ((p:Int)+1))∧∃ (p':Nat),(q7r c code p' words ws)∧code.length-p'<code.length-p∧(q9p c code p p' words ws)∧((lang=lang∧ws=ws∧True)∧True)∧True∧True∧True∧True∧True∧True∧True∧True else false=Hea.misR (Snd.q0l c) (Hea.ownW ws code) words:=by
 delta q9p q7r qgk zFit
 obtain ⟨hW,hC,hl,hin,hwl,hws⟩:=h;have hl:code.length≤1000000:=hl;have hwl:words.length≤1000000:=hwl;have hws:∀ s∈words,s.length≤1000000:=hws;have hin:Cod.inB ws.length code=true:=hin;have hti:∀ p:Nat,((p:Int)).toNat=p:=λ_=>rfl
 have hti1:∀ p:Nat,((p:Int)+1).toNat=p+1:=λ_=>rfl
 have h0:Int.toNat 0=0:=rfl;simp only [true_and,and_true];refine ⟨⟨hl,hin⟩,bifP (λhe=>?_) λhe=>⟨⟨⟨0,Nat.zero_le _,rfl,rfl⟩,λp hp=>?_⟩,λ_ _=>?_⟩⟩
 ·unfold Hea.misR;rw [he];rfl
 ·have hlen:(Hea.ownW ws (code.take p)).length=p:=by rw [Hea.ownW,List.length_map,List.length_take];omega
  refine bifP (λhb=>?_) λhb=>?_
  ·have hlt:p<code.length:=by have:=of_decide_eq_true hb;omega
   have hc:=Cod.q7o hin hlt;refine ⟨⟨by omega,by omega⟩,hc,by rw [hlen,List.length_singleton];omega,⟨by omega,by omega⟩,p+1,by omega,by omega,by omega,?_⟩
   have hg:code.getD p 0=code[p]:=by rw [List.getD_eq_getElem?_getD,List.getElem?_eq_getElem hlt];rfl
   rw [hti,List.take_add_one,List.getElem?_eq_getElem hlt,hg];simp only [Hea.ownW,List.map_append,Option.toList_some,List.map_cons,List.map_nil]
  ·have hle:code.length≤p:=by have:=of_decide_eq_false hb;omega
   exact ⟨(),by rw [List.take_of_length_le hle]⟩
 ·have holen:(Hea.ownW ws code).length=code.length:=Hea.q6h ws code
  have hows:∀ s∈Hea.ownW ws code,s.length≤1000000:=λs hs=>by
   unfold Hea.ownW at hs;obtain ⟨i,hi,rfl⟩:=List.mem_map.1 hs;have:=(List.all_eq_true.1 hin) i hi;simp only [Bool.and_eq_true,decide_eq_true_eq] at this;have hlt:i.toNat<ws.length:=by omega
   rw [List.getD_eq_getElem?_getD,List.getElem?_eq_getElem hlt];exact hW.2.2 _ (List.getElem_mem hlt)
  generalize Hea.ownW ws code=own at he holen hows ⊢;have hgl:∀ (l:List (List UInt8)) (i:Nat),(∀ s∈l,s.length≤1000000)→(l.getD i []).length≤1000000:=λl i h=>by
   rw [List.getD_eq_getElem?_getD];by_cases hi:i<l.length
   ·rw [List.getElem?_eq_getElem hi];exact h _ (List.getElem_mem hi)
   ·rw [List.getElem?_eq_none (by omega)];exact Nat.zero_le _
  refine ⟨⟨0,⟨Nat.zero_le _,λj hj=>absurd hj (Nat.not_lt_zero j)⟩,rfl⟩,λp ⟨hp,hj⟩=>?_⟩
  refine bifP (λhb=>?_) λhb=>?_
  ·have hlt:p<own.length:=by have:=of_decide_eq_true hb;omega
   have hto:((own.length:Int)).toNat=own.length:=rfl;simp only [hti,hti1,h0,hto,List.nil_append,List.length_nil,List.drop_zero,List.take_length,Nat.zero_add,Nat.beq_refl,List.length_set,cond_true];have next:Hea.q3m (Snd.q0l c) own words p=false→((-9223372036854775808:Int)≤(p:Int)+1∧(p:Int)+1≤9223372036854775807)∧∃ p':Nat,(p'≤code.length∧∀ j,j<p'→Hea.q3m (Snd.q0l c) own words j=false)∧code.length-p'<code.length-p∧(p:Int)+1=(p':Int):=λhm =>
    ⟨⟨by omega,by omega⟩,p+1,⟨by omega,λj h=>by
     by_cases hjp:j=p
     ·subst hjp;exact hm
     ·exact hj j (by omega)⟩,by omega,by omega⟩
   have hcut:(own.take p++own.drop (p+1)).length≤1000000:=by rw [List.length_append,List.length_take,List.length_drop];omega
   have hcut0:=hcut;rw [List.length_append] at hcut0;refine ⟨⟨by omega,by omega,by omega⟩,⟨by omega,by omega⟩,⟨by omega,by omega,by omega⟩,by omega,by omega,by omega,bifP (λh1=>?_) λh1=>?_⟩
   ·exact Hea.mis_hit he hlt (by unfold Hea.q3m;rw [h1,Bool.true_or,Bool.true_or])
   have swap:((decide (p<words.length)&&Snd.q0l c (own.getD p []) (words.getD p []))&&own.set p (words.getD p [])==words)=false →
     bif decide ((0:Int)<(p:Int)) then
      own.length*16≤140737488355328∧((-9223372036854775808:Int)≤(p:Int)-1∧(p:Int)-1≤9223372036854775807)∧((0:Int)≤(p:Int)∧(p:Int)<(own.length:Int))∧((0:Int)≤(p:Int)-1∧(p:Int)-1<(own.length:Int)) ∧
       ((-9223372036854775808:Int)≤(p:Int)-1∧(p:Int)-1≤9223372036854775807)∧((0:Int)≤(p:Int)-1∧(p:Int)-1<(own.length:Int))∧((0:Int)≤(p:Int)∧(p:Int)<(own.length:Int)) ∧
        own.length≤1000000000000000 ∧
        bif (own.set ((p:Int)-1).toNat (own.getD p [])).set p (own.getD ((p:Int)-1).toNat [])==words then true=Hea.misR (Snd.q0l c) own words
        else ((-9223372036854775808:Int)≤(p:Int)+1∧(p:Int)+1≤9223372036854775807)∧∃ p':Nat,(p'≤code.length∧∀ j,j<p'→Hea.q3m (Snd.q0l c) own words j=false)∧code.length-p'<code.length-p∧(p:Int)+1=(p':Int)
     else ((-9223372036854775808:Int)≤(p:Int)+1∧(p:Int)+1≤9223372036854775807)∧∃ p':Nat,(p'≤code.length∧∀ j,j<p'→Hea.q3m (Snd.q0l c) own words j=false)∧code.length-p'<code.length-p∧(p:Int)+1=(p':Int):=λh2=>by
    refine bifP (λh3=>?_) λh3=>?_
    ·have h3:=of_decide_eq_true h3
     obtain ⟨q,rfl⟩:∃ q,p=q+1:=⟨p-1,by omega⟩
     have hq:(((q+1:Nat):Int)-1).toNat=q:=by omega
     rw [hq];refine ⟨by omega,⟨by omega,by omega⟩,⟨by omega,by omega⟩,⟨by omega,by omega⟩,⟨by omega,by omega⟩,⟨by omega,by omega⟩,⟨by omega,by omega⟩,by omega,bifP (λh4=>?_) λh4=>next ?_⟩
     ·exact Hea.mis_hit he hlt (by unfold Hea.q3m;rw [decide_eq_true (Nat.succ_pos q),Nat.add_sub_cancel,h4,Bool.true_and,Bool.or_true])
     ·unfold Hea.q3m;rw [h1,h2,Nat.add_sub_cancel,h4,Bool.and_false];rfl
    ·have h3:=of_decide_eq_false h3
     refine next ?_;unfold Hea.q3m;rw [h1,h2,decide_eq_false (show ¬ 0<p by omega)];rfl
   refine bifP (λh2=>?_) λh2=>swap ?_
   ·have h2:=of_decide_eq_true h2
    have h2n:p<words.length:=by omega
    refine ⟨⟨by omega,by omega⟩,⟨by omega,by omega⟩,⟨hC,hgl own p hows,hgl words p hws⟩,bifP (λh3=>?_) λh3=>swap (by rw [h3,Bool.and_false,Bool.false_and])⟩
    refine ⟨by omega,⟨by omega,by omega⟩,⟨by omega,by omega⟩,by omega,bifP (λh4=>?_) λh4=>swap (by rw [h4,Bool.and_false])⟩
    exact Hea.mis_hit he hlt (by unfold Hea.q3m;rw [decide_eq_true h2n,h3,h4];simp)
   ·have h2:=of_decide_eq_false h2
    rw [decide_eq_false (show ¬ p<words.length by omega)];rfl
  ·have hle:own.length≤p:=by have:=of_decide_eq_false hb;omega
   exact Hea.mis_none λj h=>hj j (by omega)
set_option maxRecDepth 100000 in
theorem misR_holds:cMisR.Holds Tryz.prog:=by
 refine q1j (cons:=consMisR) Tryz.func25 (by kernel_rfl) (by kernel_rfl) mixed (by kernel_rfl) (all_cons qf9 (all_cons qhf (all_cons ralike_holds all_nil))) (λp=>anMisR p.2.1 p.1.2 p.2.2.1 p.2.2.2) λp hp=>?_
 obtain ⟨⟨lang,ws⟩,c,code,words⟩:=p;refine cast ?_ (misR_vc lang ws c code words hp)
 kernel_rfl
end Go.Proofs.YtfecgebhoondjaaGreatDoor
namespace Go.Proofs.YtfecgebhoondjaaGreatDoor
open Go.RowKit R
set_option maxRecDepth 100000 in
theorem said_vc (text:List UInt8) (h:cSaid.pre text) :
  bif decide ((100:Int)<(text.length:Int)) then ([],false)=Hea.q20 text else (∃ (p':Nat),(p'≤text.length∧(List.take p' text).all Hea.okC=true)∧(True∧(0:Int)=(↑p' :
  Int)∧text=text∧True)∧True∧([[]]=Hea.cutW (List.take p' text)∧True)∧True∧True∧True∧True∧True∧True∧True)∧∀ (p:Nat),p≤text.length∧(List.take p text).all
  Hea.okC=true→bif decide ((p:Int)<(text.length:Int)) then ((0:Int)≤(p:Int)∧(p:Int)<(text.length:Int))∧bif (↑(text.getD (p:Int).toNat (0:UInt8)).toNat :
  Int)==(32:Int) then ((Hea.cutW (List.take p text)).length+([[]]:List (List UInt8)).length)*(16:Nat)≤(140737488355328:Nat)∧((-9223372036854775808:Int)≤(p:Int)+(1 :
  Int)∧(p:Int)+(1:Int)≤(9223372036854775807:Int))∧∃ (p':Nat),(p'≤text.length∧(List.take p' text).all Hea.okC=true)∧text.length-p'<text.length-p∧(True∧(↑p :
  Int)+(1:Int)=(p':Int)∧text=text∧True)∧True∧(Hea.cutW (List.take p text)++[[]]=Hea.cutW (List.take p' text)∧True)∧True∧True∧True∧True∧True∧True∧True
  else ((0:Int)≤(p:Int)∧(p:Int)<(text.length:Int))∧bif decide ((↑(text.getD (p:Int).toNat (0:UInt8)).toNat:Int)<(97:Int)) then ([],false)=Hea.q20 text else
  ((0:Int)≤(p:Int)∧(p:Int)<(text.length:Int))∧bif decide ((122:Int)<(↑(text.getD (p:Int).toNat (0:UInt8)).toNat:Int)) then ([],false)=Hea.q20 text else
  ((-9223372036854775808:Int)≤(↑(Hea.cutW (List.take p text)).length:Int)-(1:Int)∧(↑(Hea.cutW (List.take p text)).length:Int)-(1:Int)≤(9223372036854775807:Int)) ∧
  ((-9223372036854775808:Int)≤(↑(Hea.cutW (List.take p text)).length:Int)-(1:Int)∧(↑(Hea.cutW (List.take p text)).length:Int)-(1:Int)≤(9223372036854775807:Int))∧((0 :
  Int)≤(↑(Hea.cutW (List.take p text)).length:Int)-(1:Int)∧(↑(Hea.cutW (List.take p text)).length:Int)-(1:Int)<(↑(Hea.cutW (List.take p text)).length:Int)) ∧
  ((-9223372036854775808:Int)≤(p:Int)+(1:Int)∧(p:Int)+(1:Int)≤(9223372036854775807:Int))∧((0:Int)≤(p:Int)∧(p:Int)≤(p:Int)+(1:Int)∧(p:Int) +
  (1:Int)≤(text.length:Int))∧((Hea.cutW (List.take p text)).getD ((↑(Hea.cutW (List.take p text)).length:Int)-(1:Int)).toNat []).length+(List.drop (p:Int).toNat (List.take
  ((p:Int)+(1:Int)).toNat text)).length≤(9223372036854775807:Nat)∧((0:Int)≤(↑(Hea.cutW (List.take p text)).length:Int)-(1:Int)∧(↑(Hea.cutW (List.take p text)).length :
  Int)-(1:Int)<(↑(Hea.cutW (List.take p text)).length:Int))∧bif ((↑(Hea.cutW (List.take p text)).length:Int)-(1:Int)).toNat.beq ((↑(Hea.cutW (List.take p text)).length:Int) -
  (1:Int)).toNat then ((-9223372036854775808:Int)≤(p:Int)+(1:Int)∧(p:Int)+(1:Int)≤(9223372036854775807:Int))∧∃ (p':Nat),(p'≤text.length∧(List.take p'
  text).all Hea.okC=true)∧text.length-p'<text.length-p∧(True∧(p:Int)+(1:Int)=(p':Int)∧text=text∧True)∧True∧((Hea.cutW (List.take p text)).set ((↑(Hea.cutW
  (List.take p text)).length:Int)-(1:Int)).toNat ((Hea.cutW (List.take p text)).getD ((↑(Hea.cutW (List.take p text)).length:Int)-(1:Int)).toNat []++List.drop (p:Int).toNat
  (List.take ((p:Int)+(1:Int)).toNat text))=Hea.cutW (List.take p' text)∧True)∧True∧True∧True∧True∧True∧True∧True else False else (∃ (p':Nat),(p'≤(Hea.cutW
  text).length∧(List.take p' (Hea.cutW text)).all Hea.okL=true)∧(True∧(0:Int)=(p':Int)∧text=text∧True)∧True∧(Hea.cutW (List.take p text)=Hea.cutW text∧True)∧True
  ∧ True∧True∧True∧True∧True∧True)∧∀ (p:Nat),p≤(Hea.cutW text).length∧(List.take p (Hea.cutW text)).all Hea.okL=true→bif decide ((p:Int)<(↑(Hea.cutW text).length :
  Int)) then ((0:Int)≤(p:Int)∧(p:Int)<(↑(Hea.cutW text).length:Int))∧bif decide ((↑((Hea.cutW text).getD (p:Int).toNat []).length:Int)<(1:Int)) then ([],false) =
  Hea.q20 text else ((0:Int)≤(p:Int)∧(p:Int)<(↑(Hea.cutW text).length:Int))∧bif decide ((12:Int)<(↑((Hea.cutW text).getD (p:Int).toNat []).length:Int)) then ([],
  false)=Hea.q20 text else ((-9223372036854775808:Int)≤(p:Int)+(1:Int)∧(p:Int)+(1:Int)≤(9223372036854775807:Int))∧∃ (p':Nat),(p'≤(Hea.cutW text).length ∧
  (List.take p' (Hea.cutW text)).all Hea.okL=true)∧(Hea.cutW text).length-p'<(Hea.cutW text).length-p∧(True∧(p:Int)+(1:Int)=(p':Int)∧text=text∧True)∧True ∧
  (Hea.cutW text=Hea.cutW text∧True)∧True∧True∧True∧True∧True∧True∧True else (Hea.cutW text,decide ((↑(Hea.cutW text).length:Int)≤(5:Int)))=Hea.q20 text
  := by
 simp only [true_and,and_true];refine bifP (λhb=>?_) λhb=>?_
 ·have:=of_decide_eq_true hb
  unfold Hea.q20;rw [if_pos (by omega)]
 have hlen:text.length≤100:=by have:=of_decide_eq_false hb;omega
 have hti:∀ p:Nat,((p:Int).toNat)=p:=λ_=>rfl
 have hti1:∀ p:Nat,((p:Int)+1).toNat=p+1:=λ_=>rfl
 have badC:∀ p,p<text.length→Hea.okC (text.getD p 0)=false→([],false)=Hea.q20 text:=λp hp hc=>by
  unfold Hea.q20;rw [if_neg (by omega),if_pos (by rw [Hea.all_bad hp hc];rfl)]
 refine ⟨⟨0,⟨Nat.zero_le _,rfl⟩,rfl,rfl⟩,?_⟩;rintro p ⟨hp,hall⟩;have hcl:=Hea.qey (text.take p);rw [List.length_take] at hcl;have hne:=List.length_pos_iff.2 (Hea.qgu (text.take p));simp only [hti,hti1];refine bifP (λhb=>?_) λhb=>?_
 ·have hlt:p<text.length:=by have:=of_decide_eq_true hb;omega
  have hst:=Hea.cut_step text hlt;have hstA:Hea.okC (text.getD p 0)=true→(text.take (p+1)).all Hea.okC=true:=λh=>by rw [Hea.take_one text hlt,List.all_append,hall,List.all_cons,List.all_nil,h];rfl
  refine ⟨⟨by omega,by omega⟩,bifP (λhs=>?_) λhs=>?_⟩
  ·have h32:text.getD p 0=32:=by have:=eq_of_beq hs;exact UInt8.toNat_inj.1 (by exact_mod_cast this)
   have hs32:(text.getD p 0==32)=true:=by rw [h32];rfl
   refine ⟨by rw [List.length_singleton];omega,⟨by omega,by omega⟩,p+1,⟨by omega,hstA (by rw [Hea.okC,hs32];rfl)⟩,by omega,by omega,?_⟩
   rw [hst,Hea.stepW,if_pos hs32]
  ·have hs32:(text.getD p 0==32)=false:=by
    cases h:(text.getD p 0==32)
    ·rfl
    ·rw [eq_of_beq h] at hs;exact absurd hs (by decide)
   refine ⟨⟨by omega,by omega⟩,bifP (λh1=>?_) λh1=>⟨⟨by omega,by omega⟩,bifP (λh2=>?_) λh2=>?_⟩⟩
   ·refine badC p hlt ?_
    have:=of_decide_eq_true h1
    rw [Hea.okC,hs32,decide_eq_false (show ¬97≤(text.getD p 0).toNat by omega)];rfl
   ·refine badC p hlt ?_
    have:=of_decide_eq_true h2
    rw [Hea.okC,hs32,decide_eq_false (show ¬(text.getD p 0).toNat≤122 by omega),Bool.and_false];rfl
   ·have g1:=of_decide_eq_false h1
    have g2:=of_decide_eq_false h2;have hok:Hea.okC (text.getD p 0)=true:=by rw [Hea.okC,decide_eq_true (show 97≤(text.getD p 0).toNat by omega),decide_eq_true (show (text.getD p 0).toNat≤122 by omega),Bool.and_true,Bool.or_true]
    have hlast:((↑(Hea.cutW (text.take p)).length:Int)-1).toNat=(Hea.cutW (text.take p)).length-1:=by omega
    simp only [hlast,Hea.ql3 text hlt];refine ⟨⟨by omega,by omega⟩,⟨by omega,by omega⟩,⟨by omega,by omega⟩,⟨by omega,by omega⟩,⟨by omega,by omega,by omega⟩,?_,⟨by omega,by omega⟩,bifP (λ_=>?_) λhx=>?_⟩
    ·have:=Hea.cut_getD_len (text.take p) ((Hea.cutW (text.take p)).length-1)
     rw [List.length_take] at this;rw [List.length_singleton];omega
    ·refine ⟨⟨by omega,by omega⟩,p+1,⟨by omega,hstA hok⟩,by omega,by omega,?_⟩
     rw [hst,Hea.stepW,if_neg (by rw [hs32];simp)]
    ·rw [show Nat.beq _ _=true from Nat.beq_refl _] at hx;cases hx
 ·have hle:text.length≤p:=by have:=of_decide_eq_false hb;omega
  rw [List.take_of_length_le hle] at hall ⊢;have badL:∀ p,p<(Hea.cutW text).length→Hea.okL ((Hea.cutW text).getD p [])=false→([],false)=Hea.q20 text:=λp hp hc=>by
   unfold Hea.q20;rw [if_neg (by omega),if_neg (by rw [hall];simp),if_pos (by rw [Hea.all_bad hp hc];rfl)]
  have hcl:=Hea.qey text;refine ⟨⟨0,⟨Nat.zero_le _,rfl⟩,rfl,rfl⟩,?_⟩;rintro q ⟨hq,hql⟩
  try simp only [hti]
  refine bifP (λhb=>?_) λhb=>?_
  ·have hlt:q<(Hea.cutW text).length:=by have:=of_decide_eq_true hb;omega
   refine ⟨⟨by omega,by omega⟩,bifP (λh1=>?_) λh1=>⟨⟨by omega,by omega⟩,bifP (λh2=>?_) λh2=>⟨⟨by omega,by omega⟩,q+1,⟨by omega,?_⟩,by omega,by omega⟩⟩⟩
   ·refine badL q hlt ?_
    have:=of_decide_eq_true h1
    rw [Hea.okL,decide_eq_false (show ¬1≤((Hea.cutW text).getD q []).length by omega)];rfl
   ·refine badL q hlt ?_
    have:=of_decide_eq_true h2
    rw [Hea.okL,decide_eq_false (show ¬((Hea.cutW text).getD q []).length≤12 by omega),Bool.and_false]
   ·have g1:=of_decide_eq_false h1
    have g2:=of_decide_eq_false h2;rw [Hea.take_oneL _ hlt,List.all_append,hql,List.all_cons,List.all_nil,Hea.okL,decide_eq_true (show 1≤((Hea.cutW text).getD q []).length by omega),decide_eq_true (show ((Hea.cutW text).getD q []).length≤12 by omega)];rfl
  ·have hle:(Hea.cutW text).length≤q:=by have:=of_decide_eq_false hb;omega
   rw [List.take_of_length_le hle] at hql;unfold Hea.q20;rw [if_neg (by omega),if_neg (by rw [hall];simp),if_neg (by rw [hql];simp)]
   congr 1
   exact decide_eq_decide.2 (by omega)
set_option maxRecDepth 100000 in
theorem said_holds:cSaid.Holds Tryz.prog:=by
 refine q1j (cons:=[]) Tryz.func23 (by kernel_rfl) (by kernel_rfl) mixed (by kernel_rfl) all_nil (λp=>anSaid p) λp hp=>?_
 refine cast ?_ (said_vc p hp)
 kernel_rfl
theorem fewH_out {lang:List UInt8} {ws:List (List UInt8)} {c:CfP} {book:q0c} {text:List UInt8} (h:fewH (lang,ws) c book text=true):q1f (lang,ws)∧q0p c∧q50 book∧text.length≤100∧book.length≤8:=by
 unfold fewH at h;rw [Bool.and_eq_true,decide_eq_true_eq] at h;obtain ⟨hW,hC,hg,hl,hws⟩:=few_out41 h.1;exact ⟨hW,hC,longB_of hg hl (by omega),h.2,by omega⟩
theorem few42_vc (lang:List UInt8) (ws:List (List UInt8)) (c:CfP) (book:q0c) (text:List UInt8) (h:cFew42.pre ((lang,ws),c,book,text)) :
  (8:Int)≤(1000:Int)∧bif q60 (lang,ws) c book (8:Int) then decide ((text.length:Int)≤(100:Int))=fewH (lang,ws) c book text else false=fewH (lang,ws) c book text
  := by
 refine ⟨by omega,bifP (λhb=>?_) λhb=>?_⟩
 ·unfold fewH
  rw [hb,Bool.true_and];exact decide_eq_decide.2 (by omega)
 ·unfold fewH
  rw [hb];rfl
abbrev qdg:Prop :=
 (([(101:UInt8),(110:UInt8)]=[(101:UInt8),(110:UInt8)]∧True∧True)∧True)
set_option maxRecDepth 100000 in
theorem head42_vc (h:cHead42.pre ()) :
  (∃ (p':Nat),p'≤(6:Nat)∧(true=true∧(0:Int)=(p':Int)∧True∧True∧True∧True∧True∧True)∧qdg∧([[(98:UInt8),(97:UInt8),(100:UInt8)],[(98:UInt8),(97:UInt8),(110:UInt8)],[(112:UInt8),(97:UInt8),(110:UInt8)],[(115:UInt8),(101:UInt8),(97:UInt8)]]=wd42∧[([(98:UInt8)],[(112:UInt8)])]=cf42∧[([(101:UInt8),(49:UInt8)],[(0:Int),(0:Int),(3:Int)],false,(0:Int),(0:Int)),([(101:UInt8),(50:UInt8)],[(1:Int),(3:Int),(0:Int)],false,(0:Int),(0:Int))]=bk42∧[[(98:UInt8),(97:UInt8),(100:UInt8),(32:UInt8),(98:UInt8),(97:UInt8),(100:UInt8),(32:UInt8),(115:UInt8),(101:UInt8),(97:UInt8)],[(98:UInt8),(97:UInt8),(100:UInt8),(32:UInt8),(112:UInt8),(97:UInt8),(100:UInt8),(32:UInt8),(115:UInt8),(101:UInt8),(97:UInt8)],[(98:UInt8),(97:UInt8),(100:UInt8),(32:UInt8),(115:UInt8),(101:UInt8),(97:UInt8)],[(98:UInt8),(97:UInt8),(100:UInt8),(32:UInt8),(115:UInt8),(101:UInt8),(97:UInt8),(32:UInt8),(98:UInt8),(97:UInt8),(100:UInt8)],[(115:UInt8),(101:UInt8),(97:UInt8),(32:UInt8),(98:UInt8),(97:UInt8),(110:UInt8),(32:UInt8),(98:UInt8),(97:UInt8),(100:UInt8)],[(112:UInt8),(97:UInt8),(110:UInt8),(32:UInt8),(115:UInt8),(101:UInt8),(97:UInt8),(32:UInt8),(98:UInt8),(97:UInt8),(100:UInt8)]]=q1u∧[[(101:UInt8),(49:UInt8)],[(101:UInt8),(49:UInt8)],[(101:UInt8),(49:UInt8)],[(101:UInt8),(49:UInt8)],[(101:UInt8),(50:UInt8)],[(101:UInt8),(50:UInt8)]]=q34∧True)∧True∧True∧True∧True∧True∧True∧True)∧∀ (p:Nat),p≤(6:Nat)→bif decide ((p:Int)<(q1u.length:Int)) then (0≤(p:Int)∧(p:Int)<(q1u.length:Int))∧(q1f ([(101:UInt8),(110:UInt8)],wd42)∧q0p cf42∧q50 bk42∧(q1u.getD (p:Int).toNat []).length≤(1000:Nat))∧bif (Hea.q0k { lang:=[(101:UInt8),(110:UInt8)],ws:=wd42,c:=cf42 } bk42 (q1u.getD (p:Int).toNat [])).2.2==(0:Int) then (0≤(p:Int)∧(p:Int)<(q34.length:Int))∧bif (Hea.q0k { lang:=[(101:UInt8),(110:UInt8)],ws:=wd42,c:=cf42 } bk42 (q1u.getD (p:Int).toNat [])).1==q34.getD (p:Int).toNat [] then (zFit ((p:Int)+1))∧∃ (p':Nat),p'≤(6:Nat)∧(6:Nat)-p'<(6:Nat)-p∧(((Hea.q0k { lang:=[(101:UInt8),(110:UInt8)],ws:=wd42,c:=cf42 } bk42 (q1u.getD (p:Int).toNat [])).2.1==decide (0<(p:Int)))=true∧(p:Int)+1=(p':Int)∧True∧True∧True∧True∧True∧True)∧qdg∧(wd42=wd42∧cf42=cf42∧bk42=bk42∧q1u=q1u∧q34=q34∧True)∧True∧True∧True∧True∧True∧True∧True else (zFit ((p:Int)+1))∧∃ (p':Nat),p'≤(6:Nat)∧(6:Nat)-p'<(6:Nat)-p∧(false=true∧(p:Int)+1=(p':Int)∧True∧True∧True∧True∧True∧True)∧qdg∧(wd42=wd42∧cf42=cf42∧bk42=bk42∧q1u=q1u∧q34=q34∧True)∧True∧True∧True∧True∧True∧True∧True else (zFit ((p:Int)+1))∧∃ (p':Nat),p'≤(6:Nat)∧(6:Nat)-p'<(6:Nat)-p∧(false=true∧(p:Int)+1=(p':Int)∧True∧True∧True∧True∧True∧True)∧qdg∧(wd42=wd42∧cf42=cf42∧bk42=bk42∧q1u=q1u∧q34=q34∧True)∧True∧True∧True∧True∧True∧True∧True else (q1f ([(101:UInt8),(110:UInt8)],wd42)∧q0p cf42∧q50 bk42∧[(98:UInt8),(97:UInt8),(110:UInt8),(32:UInt8),(98:UInt8),(97:UInt8),(110:UInt8),(32:UInt8),(98:UInt8),(97:UInt8),(110:UInt8)].length≤(1000:Nat))∧(q1f ([(101:UInt8),(110:UInt8)],wd42)∧q0p cf42∧q50 bk42∧[(98:UInt8),(97:UInt8),(100:UInt8),(32:UInt8),(32:UInt8),(115:UInt8),(101:UInt8),(97:UInt8)].length≤(1000:Nat))∧(q1f ([(101:UInt8),(110:UInt8)],wd42)∧q0p cf42∧q50 bk42∧[(98:UInt8),(97:UInt8),(100:UInt8),(32:UInt8),(98:UInt8),(97:UInt8),(100:UInt8),(32:UInt8),(115:UInt8),(101:UInt8),(97:UInt8)].length≤(1000:Nat))∧((10:Int)==(10:Int))=true:=by
 delta qdg zFit
 have hlong:q1f ([101,110],wd42)∧q0p cf42∧q50 bk42:=by
  refine ⟨⟨by decide,by decide,by decide⟩,⟨by decide,by decide⟩,by decide,by decide⟩
 simp only [true_and,and_true];refine ⟨⟨0,by omega,rfl,rfl,rfl,rfl,rfl,rfl⟩,?_⟩
 intro k hk;have hti:((k:Int).toNat)=k:=rfl;simp only [hti];have hs6:q1u.length=6:=rfl;have hw6:q34.length=6:=rfl;refine bifP (λhb=>?_) λhb=>?_
 ·have hlt:k<6:=by have:=of_decide_eq_true hb;omega
  have hx:Hea.q0k ⟨[101,110],wd42,cf42⟩ bk42 (q1u.getD k [])=(q34.getD k [],decide ((0:Int)<(k:Int)),0):=ex_hear hlt;rw [hx];have hsl:∀ s∈q1u,s.length≤1000:=by decide
  refine ⟨⟨by omega,by omega⟩,⟨hlong.1,hlong.2.1,hlong.2.2,hsl _ (Snd.q1k q1u [] k (by omega))⟩,bifP (λ_=>⟨⟨by omega,by omega⟩,bifP (λ_=>⟨⟨by omega,by omega⟩,k+1,by omega,by omega,beq_self_eq_true _,by push_cast;rfl⟩) λhf=>?_⟩) λhf=>by simp at hf⟩
  rw [beq_self_eq_true] at hf;cases hf
 ·exact ⟨⟨hlong.1,hlong.2.1,hlong.2.2,by decide⟩,⟨hlong.1,hlong.2.1,hlong.2.2,by decide⟩,⟨hlong.1,hlong.2.1,hlong.2.2,by decide⟩,rfl⟩
set_option maxRecDepth 100000 in
theorem few42_holds:cFew42.Holds Tryz.prog:=by
 refine q1j (cons:=[cFew41]) Tryz.func17 (by kernel_rfl) (by kernel_rfl) mixed (by kernel_rfl) (all_cons few41_holds all_nil) (λ_=>[]) λp hp=>?_
 obtain ⟨⟨lang,ws⟩,c,book,text⟩:=p;refine cast ?_ (few42_vc lang ws c book text hp)
 kernel_rfl
set_option maxRecDepth 100000 in
theorem head42_holds:cHead42.Holds Tryz.prog:=by
 refine q1j (cons:=[cHear.lent,cHere.lent]) Tryz.func16 (by kernel_rfl) (by kernel_rfl) mixed (by kernel_rfl) (all_cons (show cHear.lent.Holds Tryz.prog from qjo) (all_cons (show cHere.lent.Holds Tryz.prog from here_holds) all_nil)) (λ_=>anHead42) λp hp=>?_
 refine cast ?_ (head42_vc hp)
 kernel_rfl
end Go.Proofs.YtfecgebhoondjaaGreatDoor
namespace Go.Proofs.YtfecgebhoondjaaGreatDoor
open Go.RowKit
namespace Hea
def misG (e:Cod.Ear) (words:List Str) (g:Cod.Giv):Bool:=misR (Snd.q0l e.c) (ownW e.ws g.2.1) words
theorem qe8 {exact m1 m2:Cod.Giv→Bool} (h:∀ g,exact g=false→m1 g=m2 g) (d:Str) (m:Bool):∀ (r:List Cod.Giv) (n:Nat),q51 exact m1 d m r n=q51 exact m2 d m r n
 | [],n=>rfl
 | g::r,n=>by
  rw [q51,q51];cases he:exact g
  ·simp only [Bool.false_eq_true,if_false]
   rw [h g he,qe8 h d m r (n+1),qe8 h d m r n]
  ·simp only [if_true]
theorem mis_wrong {e:Cod.Ear} {words:List Str} {g:Cod.Giv} (h:q54 e.ws words g=false):misG e words g=wrong (q04 e) e.ws words g:=by
 have hne:ownW e.ws g.2.1≠words:=by
  intro he;unfold q54 at h;rw [he,beq_self_eq_true] at h;cases h
 have:=mis_iff (al:=q04 e) hne
 exact Bool.eq_iff_iff.2 this
def corrM (e:Cod.Ear) (words:List Str):Str→Bool→List Cod.Giv→Nat→Bool:=q51 (q54 e.ws words) (misG e words)
theorem corrM_eq (e:Cod.Ear) (words:List Str) (d:Str) (m:Bool) (r:List Cod.Giv) (n:Nat):corrM e words d m r n=q51 (q54 e.ws words) (wrong (q04 e) e.ws words) d m r n:=qe8 (λg hg=>mis_wrong hg) d m r n
end Hea
open R
def cHCorr:Con:=.of 4 [ckWl,ckCf,q85,q36] [q2d] (λp=>CK.Big ckWl p.1∧CK.Big ckCf p.2.1∧CK.Big q85 p.2.2.1∧CK.Big q36 p.2.2.2) (λ_=>true)
def anHCorr (e:Cod.Ear) (book:q0c) (text:List UInt8):List (Nat×Ann) :=
 [annX 0 (Nat×Nat) (λst k=>st.hd { live:=[1,2,4,9,10,11,13],sav:=[],box:=[4] } [(15,R.int .i64 k.1),(16,R.int .i64 k.2)] [] [] [] none)
  (λ_ k=>k.2≤book.length∧k.1≤k.2∧Hea.corrM e (Hea.q20 text).1 (Hea.q0k e book text).1 (Hea.q0k e book text).2.1 (book.drop k.2) k.1=true) (λ_ k=>book.length-k.2)]
def consHCorr:List Con:=[cHead42,cFew42,cHear,qbp,cSaid,cExact,cMisR]
end Go.Proofs.YtfecgebhoondjaaGreatDoor
namespace Go.Proofs.YtfecgebhoondjaaGreatDoor
open Go.RowKit R
abbrev qgz (book:q0c) (e:Cod.Ear) (p':Nat×Nat) (text:List UInt8):Prop :=
 (p'.2≤List.length book∧p'.1≤p'.2∧Hea.corrM e (Hea.q20 text).1 (Hea.q0k e book text).1 (Hea.q0k e book text).2.1 (List.drop p'.2 book) p'.1=true)
set_option maxRecDepth 100000 in
theorem hcorr_vc (e:Cod.Ear) (book:q0c) (text:List UInt8) (h:cHCorr.pre ((e.lang,e.ws),e.c,book,text)) :
  True∧True∧bif !fewH (e.lang,e.ws) e.c book text then true=true else (q1f (e.lang,e.ws)∧q0p e.c∧q50 book∧text.length≤(1000:Nat))∧bif (Hea.q0k e book text).2.2 != (0:Int) then bif (Hea.q0k e book text).1==[] then bif !(Hea.q0k e book text).2.1 then (q1f (e.lang,e.ws)∧q0p e.c∧q50 book)∧(((Hea.q0k e book text).2.2==(1:Int))==!e.proper book)=true else false=true else false=true else True∧bif !(Hea.q20 text).2 then false=true else (q1f (e.lang,e.ws)∧q0p e.c∧q50 book)∧bif !e.proper book then false=true else (∃ (p':Nat×Nat),(qgz book e p' text)∧((0:Int)=(p'.1:Int)∧(0:Int)=(p'.2:Int)∧e.c=e.c∧book=book∧True∧true=true∧(Hea.q0k e book text).1=(Hea.q0k e book text).1∧(Hea.q0k e book text).2.1=(Hea.q0k e book text).2.1∧(Hea.q20 text).1=(Hea.q20 text).1∧True)∧((e.lang=e.lang∧e.ws=e.ws∧True)∧True)∧True∧True∧True∧True∧True∧True∧True∧True)∧∀ (p:Nat×Nat),p.2≤List.length book∧p.1≤p.2∧Hea.corrM e (Hea.q20 text).1 (Hea.q0k e book text).1 (Hea.q0k e book text).2.1 (List.drop p.2 book) p.1=true→bif decide ((p.2:Int)<(↑(List.length book):Int)) then (0≤(p.2:Int)∧(p.2:Int)<(↑(List.length book):Int))∧((List.getD book (p.2:Int).toNat Cod.noG).2.1.length≤(1000000:Nat)∧Cod.inB e.ws.length (List.getD book (p.2:Int).toNat Cod.noG).2.1=true)∧bif Hea.ownW e.ws (List.getD book (p.2:Int).toNat Cod.noG).2.1==(Hea.q20 text).1 then bif !(Hea.q0k e book text).2.1 then (0≤(p.2:Int)∧(p.2:Int)<(↑(List.length book):Int))∧((Hea.q0k e book text).1==(List.getD book (p.2:Int).toNat Cod.noG).1)=true else false=true else (0≤(p.2:Int)∧(p.2:Int)<(↑(List.length book):Int))∧(q1f (e.lang,e.ws)∧q0p e.c∧(List.getD book (p.2:Int).toNat Cod.noG).2.1.length≤(1000000:Nat)∧Cod.inB e.ws.length (List.getD book (p.2:Int).toNat Cod.noG).2.1=true∧(Hea.q20 text).1.length≤(1000000:Nat)∧∀ (s:List UInt8),s∈(Hea.q20 text).1→s.length≤(1000000:Nat))∧bif Hea.misR (Snd.q0l e.c) (Hea.ownW e.ws (List.getD book (p.2:Int).toNat Cod.noG).2.1) (Hea.q20 text).1 then (zFit ((p.1:Int)+1))∧(0≤(p.2:Int)∧(p.2:Int)<(↑(List.length book):Int))∧bif !(Hea.q0k e book text).1==(List.getD book (p.2:Int).toNat Cod.noG).1 then false=true else (zFit ((p.2:Int)+1))∧∃ (p':Nat×Nat),(qgz book e p' text)∧List.length book-p'.2<List.length book-p.2∧((p.1:Int)+1=(p'.1:Int)∧(p.2:Int)+1=(p'.2:Int)∧e.c=e.c∧book=book∧True∧true=true∧(Hea.q0k e book text).1=(Hea.q0k e book text).1∧(Hea.q0k e book text).2.1=(Hea.q0k e book text).2.1∧(Hea.q20 text).1=(Hea.q20 text).1∧True)∧((e.lang=e.lang∧e.ws=e.ws∧True)∧True)∧True∧True∧True∧True∧True∧True∧True∧True else (zFit ((p.2:Int)+1))∧∃ (p':Nat×Nat),(qgz book e p' text)∧List.length book-p'.2<List.length book-p.2∧((p.1:Int)=(p'.1:Int)∧(p.2:Int)+1=(p'.2:Int)∧e.c=e.c∧book=book∧True∧true=true∧(Hea.q0k e book text).1=(Hea.q0k e book text).1∧(Hea.q0k e book text).2.1=(Hea.q0k e book text).2.1∧(Hea.q20 text).1=(Hea.q20 text).1∧True)∧((e.lang=e.lang∧e.ws=e.ws∧True)∧True)∧True∧True∧True∧True∧True∧True∧True∧True else bif (Hea.q0k e book text).2.1 then ((p.1:Int)==(1:Int))=true else false=true:=by
 delta qgz zFit
 obtain ⟨_,_,_,_⟩:=h;simp only [true_and,and_true];refine bifP (λ_=>trivial) λhf=>?_
 obtain ⟨hW,hC,hB,hT,hl8⟩:=fewH_out (q9t hf);obtain ⟨⟨d,m,er⟩,hx⟩:∃ x,Hea.q0k e book text=x:=⟨_,rfl⟩;rw [hx];dsimp only;refine ⟨⟨hW,hC,hB,by omega⟩,bifP (λhe=>?_) λhe=>?_⟩
 ·have hbad:=Hea.hear_bad (e:=e) (book:=book) (text:=text) (by rw [hx];simpa using he)
  rw [hx] at hbad;dsimp only at hbad;obtain ⟨h1,h2,hiff⟩:=hbad;subst h1 h2;show (q1f (e.lang,e.ws)∧q0p e.c∧q50 book)∧((er==1)==!e.proper book)=true;refine ⟨⟨hW,hC,hB⟩,?_⟩;cases hp:e.proper book
  ·rw [hiff.2 hp];rfl
  ·have:(er==1)=false:=by
    rw [beq_eq_false_iff_ne];intro h;rw [hiff.1 h] at hp;cases hp
   rw [this];rfl
 ·have he0:er=0:=by simpa using he
  subst he0;obtain ⟨hp,words,hs,hcorr⟩:=Hea.corrects hx;rw [Hea.saidR_some hs,hp];dsimp only;rw [← Hea.corrM_eq] at hcorr;have hcut:=Hea.said_cut hs;have hwords:words.length≤5∧∀ s∈words,s.length≤12:=by
   unfold Hea.q4y at hs;split at hs
   ·rename_i hc
    rw [Bool.and_eq_true,decide_eq_true_eq,List.all_eq_true,← hcut] at hc;refine ⟨hc.2,λs h=>?_⟩
    have:=hc.1 s h
    unfold Hea.q4w at this;simp only [Bool.and_eq_true,decide_eq_true_eq] at this;exact this.2.1
   ·cases hs
  refine ⟨⟨hW,hC,hB⟩,⟨(0,0),⟨Nat.zero_le _,Nat.le_refl _,hcorr⟩,rfl,rfl⟩,?_⟩;rintro ⟨n,k⟩ ⟨hk,hn,hc⟩;dsimp only at hk hn hc ⊢;have hti:((k:Int)).toNat=k:=rfl;rw [hti];refine bifP (λhb=>?_) λhb=>?_
  ·have hlt:k<book.length:=by have:=of_decide_eq_true hb;omega
   have hd:book.drop k=book.getD k Cod.noG::book.drop (k+1):=by
    rw [List.drop_eq_getElem_cons hlt,List.getD_eq_getElem?_getD,List.getElem?_eq_getElem hlt];rfl
   have hmem:book.getD k Cod.noG∈book:=by
    rw [List.getD_eq_getElem?_getD,List.getElem?_eq_getElem hlt];exact List.getElem_mem hlt
   rw [hd] at hc;generalize book.getD k Cod.noG=g at hc hmem ⊢;obtain ⟨hok,hgc⟩:=Hea.q9z hp hmem;obtain ⟨_,hg5,hgi⟩:=Hea.code_said hgc;unfold Hea.corrM at hc;rw [Hea.q51] at hc;have next:∀ n',n'≤k+1→Hea.corrM e words d m (book.drop (k+1)) n'=true→((-9223372036854775808:Int)≤(k:Int)+1∧(k:Int)+1≤9223372036854775807)∧∃ p':Nat×Nat,(p'.2≤book.length∧p'.1≤p'.2∧Hea.corrM e words d m (book.drop p'.2) p'.1=true)∧book.length-p'.2<book.length-k∧(n':Int)=(p'.1:Int)∧(k:Int)+1=(p'.2:Int):=λn' h1 h2 =>
    ⟨⟨by omega,by omega⟩,(n',k+1),⟨by dsimp only;omega,h1,h2⟩,by dsimp only;omega,rfl,rfl⟩
   refine ⟨⟨by omega,by omega⟩,⟨by omega,hgi⟩,bifP (λhex=>?_) λhex=>⟨⟨by omega,by omega⟩,⟨hW,hC,by omega,hgi,by omega,λs hs=>by have:=hwords.2 s hs;omega⟩,bifP (λhm=>?_) λhm=>?_⟩⟩
   ·rw [show Hea.q54 e.ws words g=true from hex,if_pos rfl,Bool.and_eq_true] at hc
    rw [hc.1];exact ⟨⟨by omega,by omega⟩,hc.2⟩
   ·rw [show Hea.q54 e.ws words g=false from hex,show Hea.misG e words g=true from hm] at hc
    simp only [Bool.false_eq_true,if_false,if_true,Bool.and_eq_true] at hc;refine ⟨⟨by omega,by omega⟩,⟨by omega,by omega⟩,?_⟩
    rw [hc.1];exact next (n+1) (by omega) hc.2
   ·rw [show Hea.q54 e.ws words g=false from hex,show Hea.misG e words g=false from hm] at hc
    simp only [Bool.false_eq_true,if_false] at hc;exact next n (by omega) hc
  ·have hle:book.length≤k:=by have:=of_decide_eq_false hb;omega
   rw [List.drop_eq_nil_of_le hle] at hc;unfold Hea.corrM at hc;rw [Hea.q51,Bool.and_eq_true] at hc;rw [hc.1];have h1:n=1:=eq_of_beq hc.2;subst h1;rfl
set_option maxRecDepth 100000 in
theorem hcorr_holds:cHCorr.Holds Tryz.prog:=by
 refine q1j (cons:=consHCorr) Tryz.func4 (by kernel_rfl) (by kernel_rfl) mixed (by kernel_rfl) (all_cons head42_holds (all_cons few42_holds (all_cons qjo (all_cons qah (all_cons said_holds (all_cons qf9 (all_cons misR_holds all_nil))))))) (λp=>anHCorr ⟨p.1.1,p.1.2,p.2.1⟩ p.2.2.1 p.2.2.2) λp hp=>?_
 obtain ⟨⟨lang,ws⟩,c,book,text⟩:=p;refine cast ?_ (hcorr_vc ⟨lang,ws,c⟩ book text hp)
 kernel_rfl
end Go.Proofs.YtfecgebhoondjaaGreatDoor
namespace Go.Proofs.YtfecgebhoondjaaGreatDoor
open Go.RowKit Go.ChangeShapes Go.WideShapes
namespace R
def fldK (T:TypeId→Option Kds) (P:Program):List Field→Nat→Option Kds
 | [],_=>none
 | [f],o=>match T f.type with
  | some fs=>bif f.offset.beq o&&(P.cellsOf f.type).beq fs.size then some fs else none
  | none=>none
 | f::g::r,o=>match T f.type,fldK T P (g::r) (o+P.cellsOf f.type) with
  | some fs,some gs=>bif f.offset.beq o&&(P.cellsOf f.type).beq fs.size then some (fs.app gs) else none
  | _,_=>none
def repK (fs:Kds):Nat→Option Kds
 | 0=>none
 | 1=>some fs
 | n+2=>match repK fs (n+1) with
  | some gs=>some (fs.app gs)
  | none=>none
def tyK (P:Program):Nat→TypeId→Option Kds
 | 0,_=>none
 | n+1,t=>match P.underlying t with
  | some (.int k)=>some (.one (.int k))
  | some .bool=>some (.one .bool)
  | some .string=>some (.one .str)
  | some (.slice e)=>match tyK P n e with
   | some fs=>bif (P.cellsOf e).beq fs.size then some (.one (.sl fs)) else none
   | none=>none
  | some (.struct F)=>match fldK (tyK P n) P F.toList 0 with
   | some fs=>bif (P.cellsOf t).beq fs.size then some fs else none
   | none=>none
  | some (.array len e)=>match tyK P n e with
   | some fs=>bif (P.cellsOf e).beq fs.size then (match repK fs len with
    | some gs=>bif (P.cellsOf t).beq gs.size then some gs else none
    | none=>none) else none
   | none=>none
  | _=>none
def ckT (P:Program) (t:TypeId):Option CK :=
 match P.underlying t with
 | some (.struct _)=>(tyK P 20 t).map .agg
 | some (.array _ _)=>none
 | _=>match tyK P 20 t with
  | some (.one k)=>some (.one k)
  | _=>none
def appPay:(fs:Kds)→{gs:Kds}→fs.Pay→gs.Pay→(fs.app gs).Pay
 | .one _,_,p,q=>(p,q)
 | .cons _ ks,_,p,q=>(p.1,appPay ks p.2 q)
theorem qj0:∀ (fs gs:Kds),(fs.app gs).size=fs.size+gs.size
 | .one k,gs=>by show gs.size+1=1+gs.size;omega
 | .cons k ks,gs=>by show (ks.app gs).size+1=ks.size+1+gs.size;rw [qj0];omega
theorem app_big:∀ (fs:Kds) {gs:Kds} (p:fs.Pay) (q:gs.Pay),fs.Big p→gs.Big q→(fs.app gs).Big (appPay fs p q)
 | .one k,gs,p,q,hp,hq=>⟨hp,hq⟩
 | .cons k ks,gs,p,q,hp,hq=>⟨hp.1,app_big ks p.2 q hp.2 hq⟩
section
variable {H:Type} {enc:TypeId×Value→H} {P:Program} {w:World} {base:Nat} {spare:Nat→Bool} {held:Bool}
theorem qg9:∀ (fs:Kds) {gs:Kds} (p:fs.Pay) (q:gs.Pay) (cs ds:List Value),q2i w fs p cs→q2i w gs q ds→q2i w (fs.app gs) (appPay fs p q) (cs++ds)
 | .one k,gs,p,q,cs,ds,hp,hq=>by
  obtain ⟨v,rfl,hv⟩:=hp;exact ⟨v,ds,rfl,hv,hq⟩
 | .cons k ks,gs,p,q,cs,ds,hp,hq=>by
  obtain ⟨v,r,rfl,hv,hr⟩:=hp;exact ⟨v,r++ds,rfl,hv,qg9 ks p.2 q r ds hr hq⟩
def Opens (enc:TypeId×Value→H) (P:Program) (w:World) (base:Nat) (spare:Nat→Bool) (held:Bool) (t:TypeId) (fs:Kds):Prop :=
 ∀ (fuel:Nat) (cs:List Value) (x:DataW H×List MemPlace),DataW.trod enc P w base spare held fuel t cs=some x→∃ p,q2i w fs p cs∧fs.Big p
theorem fld_opens {T:TypeId→Option Kds} (hT:∀ t fs,T t=some fs→Opens enc P w base spare held t fs):∀ (l:List Field) (o:Nat) (fs:Kds),fldK T P l o=some fs→∀ (n:Nat) (cs:List Value),cs.length=o+fs.size →
  (∀ (i:Nat) (f:Field),l[i]? = some f→∃ y,DataW.trod enc P w base spare held n f.type ((cs.drop f.offset).take (P.cellsOf f.type))=some y)→∃ p,q2i w fs p (cs.drop o)∧fs.Big p
 | [],o,fs,h,n,cs,hc,hx=>by cases h
 | [f],o,fs,h,n,cs,hc,hx=>by
  have h:(match T f.type with
   | some fs=>bif f.offset.beq o&&(P.cellsOf f.type).beq fs.size then some fs else none
   | none=>none)=some fs:=h
  split at h
  ·rename_i gs hg
   cases hb:(f.offset.beq o&&(P.cellsOf f.type).beq gs.size)
   ·rw [hb] at h;cases h
   ·rw [hb] at h
    injection h with h;subst h;rw [Bool.and_eq_true] at hb;have h1:=Nat.eq_of_beq_eq_true hb.1;have h2:=Nat.eq_of_beq_eq_true hb.2;obtain ⟨y,hy⟩:=hx 0 f rfl;rw [h1,h2,List.take_of_length_le (by rw [List.length_drop];omega)] at hy
    exact hT _ _ hg n _ y hy
  ·cases h
 | f::g::r,o,fs,h,n,cs,hc,hx=>by
  have h:(match T f.type,fldK T P (g::r) (o+P.cellsOf f.type) with
   | some fs,some gs=>bif f.offset.beq o&&(P.cellsOf f.type).beq fs.size then some (fs.app gs) else none
   | _,_=>none)=some fs:=h
  split at h
  ·rename_i k1 k2 hg hr
   cases hb:(f.offset.beq o&&(P.cellsOf f.type).beq k1.size)
   ·rw [hb] at h;cases h
   ·rw [hb] at h
    injection h with h;subst h;rw [Bool.and_eq_true] at hb;have h1:=Nat.eq_of_beq_eq_true hb.1;have h2:=Nat.eq_of_beq_eq_true hb.2;rw [qj0] at hc;obtain ⟨y,hy⟩:=hx 0 f rfl;rw [h1,h2] at hy;obtain ⟨p,hp,hbp⟩:=hT _ _ hg n _ y hy;obtain ⟨q,hq,hbq⟩:=fld_opens hT (g::r) _ k2 hr n cs (by omega) λi f' hi=>hx (i+1) f' hi
    refine ⟨appPay k1 p q,?_,app_big k1 p q hbp hbq⟩;have:=qg9 k1 p q _ _ hp hq;rw [h2,← List.drop_drop,List.take_append_drop] at this;exact this
  ·cases h
theorem rep_opens {e:TypeId} {fs:Kds} (hT:Opens enc P w base spare held e fs) (hce:P.cellsOf e=fs.size):∀ (len:Nat) (gs:Kds),repK fs len=some gs→∀ (n i0:Nat) (cs:List Value),cs.length=i0*fs.size+gs.size →
  (∀ (i:Nat),i<len→∃ y,DataW.trod enc P w base spare held n e ((cs.drop ((i0+i)*P.cellsOf e)).take (P.cellsOf e))=some y)→∃ p,q2i w gs p (cs.drop (i0*fs.size))∧gs.Big p
 | 0,gs,h,n,i0,cs,hc,hx=>by cases h
 | 1,gs,h,n,i0,cs,hc,hx=>by
  have h:some fs=some gs:=h;injection h with h;subst h;obtain ⟨y,hy⟩:=hx 0 Nat.one_pos;rw [hce,Nat.add_zero,List.take_of_length_le (by rw [List.length_drop];omega)] at hy
  exact hT n _ y hy
 | len+2,gs,h,n,i0,cs,hc,hx=>by
  have h:(match repK fs (len+1) with
   | some gs=>some (fs.app gs)
   | none=>none)=some gs:=h
  split at h
  ·rename_i k2 hr
   injection h with h;subst h;rw [qj0] at hc;obtain ⟨y,hy⟩:=hx 0 (by omega)
   rw [hce,Nat.add_zero] at hy;obtain ⟨p,hp,hbp⟩:=hT n _ y hy;obtain ⟨q,hq,hbq⟩:=rep_opens hT hce (len+1) k2 hr n (i0+1) cs (by rw [Nat.succ_mul];omega) λi hi=>by
    have:=hx (i+1) (by omega)
    rwa [show i0+1+i=i0+(i+1) by omega]
   refine ⟨appPay fs p q,?_,app_big fs p q hbp hbq⟩;have:=qg9 fs p q _ _ hp hq;rw [Nat.succ_mul,← List.drop_drop,List.take_append_drop] at this;exact this
  ·cases h
theorem qba:∀ (n:Nat) (t:TypeId) (fs:Kds),tyK P n t=some fs→Opens enc P w base spare held t fs
 | 0,t,fs,h=>by cases h
 | n+1,t,fs,h=>by
  intro fuel cs x hx;unfold tyK at h;split at h
  ·rename_i k hu
   injection h with h;subst h;obtain ⟨m,h1,h2,h3⟩:=DataW.trod_int hu hx;exact ⟨m,⟨_,h1,rfl⟩,by first | exact h3 | exact h3.1 | exact h3.2⟩
  ·rename_i hu
   injection h with h;subst h;obtain ⟨b,h1,_⟩:=DataW.trod_bool hu hx;exact ⟨b,⟨_,h1,rfl⟩,trivial⟩
  ·rename_i hu
   injection h with h;subst h;obtain ⟨s,h1,_,h3⟩:=DataW.trod_string hu hx;exact ⟨s.data.toList,⟨_,h1,rfl⟩,h3⟩
  ·rename_i e hu
   split at h
   ·rename_i gs hg
    cases hb:(P.cellsOf e).beq gs.size
    ·rw [hb] at h;cases h
    ·rw [hb] at h
     injection h with h;subst h;have hce:=Nat.eq_of_beq_eq_true hb;have hO:=qba n e gs hg;rcases Go.Deep.open_slice hu hx with ⟨rfl,_⟩ | ⟨a,len,cap,m,k,D,Pl,rfl,hbb,hlc,hm,hmm,_,hxx⟩
     ·exact ⟨([]:List gs.Pay),⟨_,rfl,none,0,rfl,Nat.le_refl _,λh=>absurd h (Nat.lt_irrefl _)⟩,Nat.zero_le _,λx h=>by cases h⟩
     ·have hlm:len≤m:=by rw [hmm];split <;> omega
      have each:∀ i,i<len→∃ p:gs.Pay,∀ g o,a=⟨g,o,none⟩→gs.Rep w (Here w) p g (o+i*gs.size)∧gs.Big p:=λi hi=>by
       obtain ⟨cs',h1,h2⟩:=hxx i (by omega)
       obtain ⟨p,hp,hbig⟩:=hO k cs' _ h2;refine ⟨p,λg o ha=>⟨q2i.row gs p cs' g _ hp λj hj=>?_,hbig⟩⟩
       subst ha;obtain ⟨_,hl,hc⟩:=World.cells?_some h1;have:=hc j (by omega)
       rw [add_pl',add_pl',hce] at this;exact this
      obtain ⟨f,hf⟩:∃ f:Nat→gs.Pay,∀ i,i<len→∀ g o,a=⟨g,o,none⟩→gs.Rep w (Here w) (f i) g (o+i*gs.size)∧gs.Big (f i):=by
       haveI:Inhabited gs.Pay:=⟨gs.dflt⟩
       exact Go.Deep.choose_lt each
      have hlen:((List.range len).map f).length=len:=by simp
      have hpl:0<len→∃ g o,a=⟨g,o,none⟩∧g<w.heap.size:=λhpos=>by
       obtain ⟨cs',h1,_⟩:=hxx 0 (by omega)
       obtain ⟨_,hl,hc⟩:=World.cells?_some h1;have:=hc 0 (by rw [hce];exact gs.q7j)
       rw [Nat.zero_mul] at this;have hlt:0<cs'.length:=by rw [hl,hce];exact gs.q7j
       rw [List.getElem?_eq_getElem hlt] at this;have ha:a.add 0=a:=by unfold Addr.add;simp
       rw [ha] at this;exact cell_plain' this
      refine ⟨((List.range len).map f:List gs.Pay),⟨_,rfl,some a,cap,by rw [hlen],by rw [hlen];exact hlc,λhpos=>?_⟩,?_,?_⟩
      ·rw [hlen] at hpos
       obtain ⟨g,o,rfl,hg⟩:=hpl hpos;refine ⟨g,o,rfl,hg,hg,λi x hi=>?_⟩
       have hil:i<len:=by
        rcases Nat.lt_or_ge i len with h' | h'
        ·exact h'
        ·rw [List.getElem?_eq_none (by rw [hlen];exact h')] at hi;cases hi
       rw [List.getElem?_map,List.getElem?_range hil] at hi;injection hi with hi;subst hi;exact (hf i hil g o rfl).1
      ·rw [hlen];unfold maxLen at hm;omega
      ·intro x hx'
       obtain ⟨i,hi,rfl⟩:=List.mem_map.1 hx';have hi:=List.mem_range.1 hi;obtain ⟨g,o,ha,hg⟩:=hpl (by omega)
       exact (hf i hi g o ha).2
   ·cases h
  ·rename_i F hu
   split at h
   ·rename_i gs hg
    cases hb:(P.cellsOf t).beq gs.size
    ·rw [hb] at h;cases h
    ·rw [hb] at h
     injection h with h;subst h;have hct:=Nat.eq_of_beq_eq_true hb;obtain ⟨xs,m,rfl,_,hl,hxl,hxx⟩:=DataW.trod_struct hu hx;have:=fld_opens (qba n) F.toList 0 gs hg m cs (by omega) λi f hi=>by
      have h1:F[i]? = some f:=by rw [← Array.getElem?_toList];exact hi
      have h2:=hxx i f h1;have hil:i<xs.length:=by
       rw [hxl];exact (Array.getElem?_eq_some_iff.1 h1).1
      rw [List.getElem?_eq_getElem hil] at h2;exact ⟨_,h2⟩
     rwa [List.drop_zero] at this
   ·cases h
  ·rename_i len e hu
   split at h
   ·rename_i fs1 hg
    cases hb1:(P.cellsOf e).beq fs1.size
    ·rw [hb1] at h;cases h
    ·rw [hb1] at h
     have hce:=Nat.eq_of_beq_eq_true hb1;dsimp only [cond_true] at h;split at h
     ·rename_i gs hr
      cases hb:(P.cellsOf t).beq gs.size
      ·rw [hb] at h;cases h
      ·rw [hb] at h
       injection h with h;subst h;have hct:=Nat.eq_of_beq_eq_true hb;obtain ⟨xs,m,rfl,_,hl,hxl,hxx⟩:=DataW.trod_array hu hx;have:=rep_opens (qba n e fs1 hg) hce len gs hr m 0 cs (by omega) λi hi=>by
        have h2:=hxx i hi;rw [List.getElem?_eq_getElem (by omega)] at h2
        rw [Nat.zero_add];exact ⟨_,h2⟩
       rwa [Nat.zero_mul,List.drop_zero] at this
     ·cases h
   ·cases h
  ·cases h
theorem qew {r:Reach} {b0:Nat} (x:CK) (t:TypeId) (ht:ckT P t=some x) {v:Value} {d:DataW H} {ps:List MemPlace} (hv:Value.okWide P w r b0 t v) (h:DataW.Trod enc P w base spare held t v d ps) :
  ∃ p:x.Pay,(x.comp p).Rep (Cx.of (Here w)) w v∧x.Big p:=by
 obtain ⟨fuel,hf⟩:=h;unfold ckT at ht;split at ht
 ·rename_i F hu
  cases hk:tyK P 20 t with
  | none=>rw [hk] at ht;cases ht
  | some ks =>
   rw [hk] at ht;injection ht with ht;subst ht;obtain ⟨cs,rfl,hsz⟩:=okWide_struct hu hv;obtain ⟨p,hp,hb⟩:=qba 20 t ks hk fuel _ _ hf;obtain ⟨h1,h2,h3⟩:=q2i.reps ks p _ hp;refine ⟨p,⟨cs,rfl,?_,λi c hi=>?_,λi u hi=>?_⟩,hb⟩
   ·rw [← h3];simp [Value.cells]
   ·obtain ⟨u,hu,hr⟩:=h1 i c hi
    exact ⟨u,by simpa [Value.cells] using hu,hr⟩
   ·exact h2 i u (by simpa [Value.cells] using hi)
 ·cases ht
 ·rename_i hns hna
  split at ht
  ·rename_i k hk
   injection ht with ht;subst ht;have hone:v.cells.toList=[v]:=by
    unfold tyK at hk;split at hk
    ·rename_i hu;obtain ⟨n,rfl⟩:=okWide_int hu hv;rfl
    ·rename_i hu;obtain ⟨n,rfl⟩:=okWide_bool hu hv;rfl
    ·rename_i hu;obtain ⟨n,rfl⟩:=okWide_string hu hv;rfl
    ·rename_i hu;obtain ⟨a,n,c,rfl⟩:=okWide_slice hu hv;rfl
    ·rename_i hu;exact absurd hu (hns _)
    ·rename_i hu;exact absurd hu (hna _ _)
    ·cases hk
   obtain ⟨p,⟨v',h1,h2⟩,h3⟩:=qba 20 t (.one k) hk fuel _ _ hf;rw [hone] at h1;injection h1 with h1;subst h1;exact ⟨p,h2,h3⟩
  ·cases ht
end
end R
end Go.Proofs.YtfecgebhoondjaaGreatDoor

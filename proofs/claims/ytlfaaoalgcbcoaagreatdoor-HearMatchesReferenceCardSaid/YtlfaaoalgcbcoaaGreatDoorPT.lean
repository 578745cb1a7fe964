/-
  Several texts in one: SzBR, SzCR, HeSd, HeTd, CrC, HfJ, HfE, HeT, HmC, R15N.
-/
import Derived.Test.YtlfaaoalgcbcoaaGreatDoorPP
import Derived.Test.YtlfaaoalgcbcoaaGreatDoorPA
import Derived.Test.YtlfaaoalgcbcoaaGreatDoorPS
import Derived.Test.YtlfaaoalgcbcoaaGreatDoorPL
import Derived.OpenShut
open List renaming take→Q0,getD→Q4,length→Q7,take_of_length_le→Q9,getElem?_eq_getElem→Qa,drop→Qc,getD_eq_getElem?_getD→Qe,length_take→Qf,length_drop→Qi,mem_singleton→Qj,length_singleton→Qk,mem_cons→Ql,mem_range→Qn,length_append→Qo,any_eq_true→Qr,getElem?_eq_none→Qt,drop_zero→Qu,take_append_drop→Qv,take_length→Qz,filter_cons→QC,getElem_mem→QD,length_map→QE,map_append→QF,range→QG,all_append→QH,drop_drop→QJ
open Bool renaming and_false→Q8,false_and→Qg,and_eq_true→Qh,true_and→Qp,not_eq_true→Qq,or_true→Qs,noConfusion→QA
open Nat renaming eq_of_beq_eq_true→Qb,zero_le→Qd,add_sub_cancel→Qw
open Int renaming toNat→Qm
open Go.World renaming cells?_some→Qx
open Go.Value renaming cells→Qy
open Go.DataW renaming trod→QI
set_option linter.unusedVariables false
namespace Go.Proofs.YtlfaaoalgcbcoaaGreatDoor
open Go.RowKit R
set_option maxRecDepth 100000 in
theorem rlet_vc (s:List UInt8) (lo hi:Int) (h:cRLet.pre (s,lo,hi)) :
    (∃ (p':Nat),(p'≤s.length∧(Q0 p' s).all Snd.letB=true)∧((0:Int)=(p':Int)∧s=s∧lo=lo∧hi=hi∧True)∧True∧True∧True∧True∧True∧True∧True∧True ∧
    True)∧∀ (p:Nat),p≤s.length∧(Q0 p s).all Snd.letB=true→bif decide ((p:Int)<(s.length:Int)) then bif decide ((p:Int)≤hi) then ((0:Int)≤(p:Int)∧(↑p :
    Int)<(s.length:Int))∧bif decide ((↑(s.getD (p:Int).toNat (0:UInt8)).toNat:Int)<(97:Int)) then false=Snd.q0a s lo hi else ((0:Int)≤(p:Int)∧(p:Int) <
    (s.length:Int))∧bif decide ((122:Int)<(↑(s.getD (p:Int).toNat (0:UInt8)).toNat:Int)) then false=Snd.q0a s lo hi else ((-9223372036854775808:Int)≤(p:Int)+(1 :
    Int)∧(p:Int)+(1:Int)≤(9223372036854775807:Int))∧∃ (p':Nat),(p'≤s.length∧(Q0 p' s).all Snd.letB=true)∧s.length-p'<s.length-p∧((p:Int)+(1:Int) =
    (p':Int)∧s=s∧lo=lo∧hi=hi∧True)∧True∧True∧True∧True∧True∧True∧True∧True∧True else bif decide (lo≤(s.length:Int)) then decide ((s.length:Int)≤hi) =
    Snd.q0a s lo hi else false=Snd.q0a s lo hi else bif decide (lo≤(s.length:Int)) then decide ((s.length:Int)≤hi)=Snd.q0a s lo hi else false=Snd.q0a s lo hi
     := by
  have h:s.length≤1000000:=h;simp only [true_and,and_true];refine ⟨⟨0,⟨Qd _,rfl⟩,rfl⟩,?_⟩;rintro p ⟨hp,ha⟩;have hti:((p:Int).toNat)=p:=rfl;simp only [hti];have fin:(s.length≤p∨hi<(p:Int))→bif decide (lo≤(s.length:Int)) then decide ((s.length:Int)≤hi)=Snd.q0a s lo hi else false=Snd.q0a s lo hi:=λhle=>by
    have hv:(decide (lo≤(s.length:Int))&&decide ((s.length:Int)≤hi))=Snd.q0a s lo hi:=by
      unfold Snd.q0a;rcases hle with hle | hle
      · rw [Snd.q5f s _ p hle] at ha
        rw [ha,Qp]
      · rw [decide_eq_false (p:=(s.length:Int)≤hi) (by omega),Q8,Q8]
    refine bifP (λhb=>?_) λhb=>?_
    · rw [← hv,hb,Qp]
    · rw [← hv,hb,Qg]
  refine bifP (λhb=>?_) λhb=>fin (.inl (by have:=of_decide_eq_false hb;omega))
  have hlt:p<s.length:=by have:=of_decide_eq_true hb;omega
  refine bifP (λhb=>?_) λhb=>fin (.inr (by have:=of_decide_eq_false hb;omega))
  have no:Snd.letB (s.getD p 0)=false→false=Snd.q0a s lo hi:=λhf=>by
    unfold Snd.q0a;rw [Snd.q61 s 0 _ p hlt hf,Qg]
  refine ⟨⟨by omega,by omega⟩,bifP (λhb=>no ?_) λh1=>⟨⟨by omega,by omega⟩,bifP (λhb=>no ?_) λh2=>⟨⟨by omega,by omega⟩,p+1,⟨by omega,?_⟩,by omega,by omega⟩⟩⟩
  · rw [Snd.qjk,hb];rfl
  · rw [Snd.qjk,hb,Bool.and_comm];rfl
  · rw [Snd.q3k s 0 _ p hlt,ha,Snd.qjk,h1,h2];rfl
set_option maxRecDepth 100000 in
theorem rvalid_vc (lang:List UInt8) (ws:List (List UInt8)) (h:qe9.pre (lang,ws)) :
    lang.length≤(1000000:Nat)∧bif !Lx.q18 lang then false=Snd.q0k lang ws else bif decide ((ws.length:Int)<(1:Int)) then false=Snd.q0k lang ws else bif decide ((4096 :
    Int)<(ws.length:Int)) then false=Snd.q0k lang ws else (∃ (p':Nat),(p'≤ws.length∧((Q0 p' ws).all λ(s:List UInt8)=>Snd.q0a s (3:Int) (8:Int))=true ∧
    Snd.rising (Q0 p' ws)=true)∧((0:Int)=(p':Int)∧True∧True)∧((lang=lang∧ws=ws∧True)∧True)∧True∧True∧True∧True∧True∧True∧True∧True)∧∀ (p :
    Nat),p≤ws.length∧((Q0 p ws).all λ(s:List UInt8)=>Snd.q0a s (3:Int) (8:Int))=true∧Snd.rising (Q0 p ws)=true→bif decide ((p:Int)<(↑ws.length :
    Int)) then ((0:Int)≤(p:Int)∧(p:Int)<(ws.length:Int))∧(ws.getD (p:Int).toNat []).length≤(1000000:Nat)∧bif !Snd.q0a (ws.getD (p:Int).toNat []) (3:Int) (8
    : Int) then false=Snd.q0k lang ws else bif decide ((0:Int)<(p:Int)) then ((-9223372036854775808:Int)≤(p:Int)-(1:Int)∧(p:Int)-(1:Int)≤(9223372036854775807 :
    Int))∧((0:Int)≤(p:Int)-(1:Int)∧(p:Int)-(1:Int)<(ws.length:Int))∧((0:Int)≤(p:Int)∧(p:Int)<(ws.length:Int))∧bif !Op.bytesLess (ws.getD ((↑p :
    Int)-(1:Int)).toNat []) (ws.getD (p:Int).toNat []) then false=Snd.q0k lang ws else ((-9223372036854775808:Int)≤(p:Int)+(1:Int)∧(p:Int)+(1:Int) ≤
    (9223372036854775807:Int))∧∃ (p':Nat),(p'≤ws.length∧((Q0 p' ws).all λ(s:List UInt8)=>Snd.q0a s (3:Int) (8:Int))=true∧Snd.rising (Q0 p' ws) =
    true)∧ws.length-p'<ws.length-p∧((p:Int)+(1:Int)=(p':Int)∧True∧True)∧((lang=lang∧ws=ws∧True)∧True)∧True∧True∧True∧True∧True∧True∧True ∧
    True else ((-9223372036854775808:Int)≤(p:Int)+(1:Int)∧(p:Int)+(1:Int)≤(9223372036854775807:Int))∧∃ (p':Nat),(p'≤ws.length∧((Q0 p' ws).all λ(s :
    List UInt8)=>Snd.q0a s (3:Int) (8:Int))=true∧Snd.rising (Q0 p' ws)=true)∧ws.length-p'<ws.length-p∧((p:Int)+(1:Int)=(p':Int)∧True∧True) ∧
    ((lang=lang∧ws=ws∧True)∧True)∧True∧True∧True∧True∧True∧True∧True∧True else true=Snd.q0k lang ws
     := by
  obtain ⟨h1000,hn,hws⟩:=h;have h1000:lang.length≤1000:=h1000;have hn:ws.length≤1000000:=hn;simp only [true_and,and_true];have vno:(Lx.q18 lang=true→1≤ws.length→ws.length≤4096→(ws.all λs=>Snd.q0a s 3 8)=true→Snd.rising ws=true→False)→false=Snd.q0k lang ws:=λh=>by
    symm
    unfold Snd.q0k;rw [← Qq];intro hh;simp only [Qh,decide_eq_true_eq] at hh;exact h hh.1 hh.2.1 hh.2.2.1 hh.2.2.2.1 hh.2.2.2.2
  refine ⟨by omega,bifP (λhb=>vno λh1=>by rw [h1] at hb;cases hb) λh1=>bifP (λhb=>vno λ_ h2=>by have:=of_decide_eq_true hb;omega) λh2=>bifP (λhb=>vno λ_ _ h3=>by have:=of_decide_eq_true hb;omega) λh3=>?_⟩
  have hname:Lx.q18 lang=true:=by simpa using h1
  refine ⟨⟨0,⟨Qd _,rfl,rfl⟩,rfl⟩,?_⟩;rintro p ⟨hp,ha,hr⟩;have hti:((p:Int).toNat)=p:=rfl;simp only [hti];refine bifP (λhb=>?_) λhb=>?_
  · have hlt:p<ws.length:=by have:=of_decide_eq_true hb;omega
    refine ⟨⟨by omega,by omega⟩,hws _ (Snd.q1p ws [] p hlt),bifP (λhb=>vno λ_ _ _ h3 _=>?_) λh1=>?_⟩
    · rw [Snd.q61 ws [] _ p hlt (by simpa using hb)] at h3;cases h3
    have h1:Snd.q0a (ws.getD p []) 3 8=true:=by simpa using h1
    have hall:(ws.take (p+1)).all (λs=>Snd.q0a s 3 8)=true:=by rw [Snd.q3k ws [] _ p hlt,ha,h1];rfl
    refine bifP (λhb=>?_) λhb=>?_
    · have h0:0<p:=by have:=of_decide_eq_true hb;omega
      have hpm:((p:Int)-1).toNat=p-1:=by omega
      rw [hpm];refine ⟨⟨by omega,by omega⟩,⟨by omega,by omega⟩,⟨by omega,by omega⟩,bifP (λhb=>vno λ_ _ _ _ h4=>?_) λh2=>⟨⟨by omega,by omega⟩,p+1,⟨by omega,hall,?_⟩,by omega,by omega⟩⟩
      · rw [Snd.rising_no ws p hlt h0 (by simpa using hb)] at h4;cases h4
      · rw [Snd.q59 ws p hlt,hr,show Op.bytesLess (ws.getD (p-1) []) (ws.getD p [])=true by simpa using h2];simp
    · have h0:p=0:=by have:=of_decide_eq_false hb;omega
      refine ⟨⟨by omega,by omega⟩,p+1,⟨by omega,hall,?_⟩,by omega,by omega⟩
      rw [Snd.q59 ws p hlt,hr,h0];rfl
  · have hle:ws.length≤p:=by have:=of_decide_eq_false hb;omega
    rw [Snd.q5f ws _ p hle] at ha;rw [Q9 hle] at hr;unfold Snd.q0k;rw [hname,ha,hr,decide_eq_true (p:=1≤ws.length) (by have:=of_decide_eq_false h2;omega),decide_eq_true (p:=ws.length≤4096) (by have:=of_decide_eq_false h3;omega)]
    rfl
abbrev q4g (c:CfP) (p:Nat):Prop :=
 (0≤(p:Int)∧(p:Int)<(↑(Q7 c):Int))
abbrev q98 (c:CfP) (p:Nat) (p':Nat):Prop :=
 (p'≤(p:Int).toNat∧(Q0 p' c).any (Snd.same (Q4 c (p:Int).toNat ([],[])))=false)
abbrev q7u (c:CfP) (p_1:Nat):Prop :=
 (0≤(p_1:Int)∧(p_1:Int)<(↑(Q7 c):Int))
set_option maxRecDepth 100000 in
theorem rproper_vc (c:CfP) (h:qcj.pre c) :
  bif decide ((200:Int)<(↑(Q7 c):Int)) then false=Snd.q0j c else (∃ (p':Nat),(p'≤Q7 c∧(Q0 p' c).all Snd.okC=true∧Snd.fresh (Q0 p' c)=true)∧((0:Int)=(p':Int)∧c=c∧True)∧zT9)∧∀ (p:Nat),p≤Q7 c∧(Q0 p c).all Snd.okC=true∧Snd.fresh (Q0 p c)=true→bif decide ((p:Int)<(↑(Q7 c):Int)) then (q4g c p)∧(Q4 c (p:Int).toNat ([],[])).1.length≤(1000000:Nat)∧bif !Snd.q0a (Q4 c (p:Int).toNat ([],[])).1 (1:Int) (3:Int) then false=Snd.q0j c else (q4g c p)∧(Q4 c (p:Int).toNat ([],[])).2.length≤(1000000:Nat)∧bif !Snd.q0a (Q4 c (p:Int).toNat ([],[])).2 (1:Int) (3:Int) then false=Snd.q0j c else (q4g c p)∧(q4g c p)∧bif (Q4 c (p:Int).toNat ([],[])).1==(Q4 c (p:Int).toNat ([],[])).2 then false=Snd.q0j c else (∃ (p':Nat),(q98 c p p')∧((0:Int)=(p':Int)∧c=c∧zE (p:Int)∧True)∧zT9)∧∀ (p_1:Nat),p_1≤(p:Int).toNat∧(Q0 p_1 c).any (Snd.same (Q4 c (p:Int).toNat ([],[])))=false→bif decide ((p_1:Int)<(p:Int)) then (q7u c p_1)∧(q4g c p)∧bif (Q4 c (p_1:Int).toNat ([],[])).1==(Q4 c (p:Int).toNat ([],[])).1 then (q7u c p_1)∧(q4g c p)∧bif (Q4 c (p_1:Int).toNat ([],[])).2==(Q4 c (p:Int).toNat ([],[])).2 then false=Snd.q0j c else (q7u c p_1)∧(q4g c p)∧bif (Q4 c (p_1:Int).toNat ([],[])).1==(Q4 c (p:Int).toNat ([],[])).2 then (q7u c p_1)∧(q4g c p)∧bif (Q4 c (p_1:Int).toNat ([],[])).2==(Q4 c (p:Int).toNat ([],[])).1 then false=Snd.q0j c else (zFit ((p_1:Int)+1))∧∃ (p':Nat),(q98 c p p')∧(p:Int).toNat-p'<(p:Int).toNat-p_1∧((p_1:Int)+1=(p':Int)∧c=c∧zE (p:Int)∧True)∧zT9 else (zFit ((p_1:Int)+1))∧∃ (p':Nat),(q98 c p p')∧(p:Int).toNat-p'<(p:Int).toNat-p_1∧((p_1:Int)+1=(p':Int)∧c=c∧zE (p:Int)∧True)∧zT9 else (q7u c p_1)∧(q4g c p)∧bif (Q4 c (p_1:Int).toNat ([],[])).1==(Q4 c (p:Int).toNat ([],[])).2 then (q7u c p_1)∧(q4g c p)∧bif (Q4 c (p_1:Int).toNat ([],[])).2==(Q4 c (p:Int).toNat ([],[])).1 then false=Snd.q0j c else (zFit ((p_1:Int)+1))∧∃ (p':Nat),(q98 c p p')∧(p:Int).toNat-p'<(p:Int).toNat-p_1∧((p_1:Int)+1=(p':Int)∧c=c∧zE (p:Int)∧True)∧zT9 else (zFit ((p_1:Int)+1))∧∃ (p':Nat),(q98 c p p')∧(p:Int).toNat-p'<(p:Int).toNat-p_1∧((p_1:Int)+1=(p':Int)∧c=c∧zE (p:Int)∧True)∧zT9 else (zFit ((p:Int)+1))∧∃ (p':Nat),(p'≤Q7 c∧(Q0 p' c).all Snd.okC=true∧Snd.fresh (Q0 p' c)=true)∧Q7 c-p'<Q7 c-p∧((p:Int)+1=(p':Int)∧c=c∧True)∧zT9 else true=Snd.q0j c:=by
 delta q4g q98 q7u zFit zE zT9
 obtain ⟨hn,hq⟩:=h;have hn:c.length≤1000000:=hn;simp only [true_and,and_true];have vno:(c.length≤200→c.all Snd.okC=true→Snd.fresh c=true→False)→false=Snd.q0j c:=λh=>by
  symm
  unfold Snd.q0j;rw [← Qq];intro hh;simp only [Qh,decide_eq_true_eq] at hh;exact h hh.1 hh.2.1 hh.2.2
 refine bifP (λhb=>vno λh1=>by have:=of_decide_eq_true hb;omega) λh200=>⟨⟨0,⟨Qd _,rfl,rfl⟩,rfl⟩,?_⟩
 rintro p ⟨hp,ha,hf⟩;have hti:((p:Int).toNat)=p:=rfl;simp only [hti];refine bifP (λhb=>?_) λhb=>?_
 ·have hlt:p<c.length:=by have:=of_decide_eq_true hb;omega
  have hqp:=hq _ (Snd.q1p c ([],[]) p hlt);have bad:Snd.okC (c.getD p ([],[]))=false→false=Snd.q0j c:=λhf=>vno λ_ h2 _=>by
   rw [Snd.q61 c ([],[]) _ p hlt hf] at h2;cases h2
  have dup:(c.take p).any (Snd.same (c.getD p ([],[])))=true→false=Snd.q0j c:=λhf=>vno λ_ _ h3=>by
   rw [Snd.fresh_no c ([],[]) p hlt hf] at h3;cases h3
  have hall:=Snd.q3k c ([],[]) Snd.okC p hlt;have hfr:=Snd.qf5 c ([],[]) p hlt;generalize hx:c.getD p ([],[])=x at *
  refine ⟨⟨by omega,by omega⟩,hqp.1,bifP (λhb=>bad ?_) λh1=>⟨⟨by omega,by omega⟩,hqp.2,bifP (λhb=>bad ?_) λh2=>⟨⟨by omega,by omega⟩,⟨by omega,by omega⟩,bifP (λhb=>bad ?_) λh3=>?_⟩⟩⟩
  ·unfold Snd.okC;rw [show Snd.q0a x.1 1 3=false by simpa using hb];rfl
  ·unfold Snd.okC;rw [show Snd.q0a x.2 1 3=false by simpa using hb,Qg,Q8]
  ·unfold Snd.okC;rw [show (x.1==x.2)=true from hb];simp
  have hok:Snd.okC x=true:=by
   unfold Snd.okC;rw [show Snd.q0a x.1 1 3=true by simpa using h1,show Snd.q0a x.2 1 3=true by simpa using h2,show (x.1==x.2)=false from h3];rfl
  refine ⟨⟨0,⟨Qd _,rfl⟩,rfl⟩,?_⟩;rintro k ⟨hk,hno⟩;have htk:((k:Int).toNat)=k:=rfl;simp only [htk];refine bifP (λhb=>?_) λhb=>?_
  ·have hkp:k<p:=by have:=of_decide_eq_true hb;omega
   have hkl:k<(c.take p).length:=by rw [Qf];omega
   have hgk:(c.take p).getD k ([],[])=c.getD k ([],[]):=by
    rw [Qe,Qe,List.getElem?_take,if_pos hkp]
   have hst:=Snd.qen c ([],[]) (Snd.same x) k (by omega)
   have hyes:Snd.same x (c.getD k ([],[]))=true→(c.take p).any (Snd.same x)=true:=λh=>Snd.any_yes (c.take p) ([],[]) _ k hkl (by rw [hgk];exact h)
   generalize c.getD k ([],[])=y at *
   have hsm:Snd.same x y=((y.1==x.1&&y.2==x.2)||(y.1==x.2&&y.2==x.1)):=by rw [Snd.same_symm,Snd.same_val]
   rw [hno,Bool.false_or] at hst;have nxt:Snd.same x y=false→(-9223372036854775808≤(k:Int)+1∧(k:Int)+1≤9223372036854775807)∧∃ p',(p'≤p∧(c.take p').any (Snd.same x)=false)∧p-p'<p-k∧(k:Int)+1=(p':Int):=λh=>⟨⟨by omega,by omega⟩,k+1,⟨by omega,by rw [hst];exact h⟩,by omega,by omega⟩
   refine ⟨⟨by omega,by omega⟩,⟨by omega,by omega⟩,bifP (λe1=>⟨⟨by omega,by omega⟩,⟨by omega,by omega⟩,bifP (λe2=>dup (hyes ?_)) λe2=>⟨⟨by omega,by omega⟩,⟨by omega,by omega⟩,bifP (λe3=>⟨⟨by omega,by omega⟩,⟨by omega,by omega⟩,bifP (λe4=>dup (hyes ?_)) λe4=>nxt ?_⟩) λe3=>nxt ?_⟩⟩) λe1=>⟨⟨by omega,by omega⟩,⟨by omega,by omega⟩,bifP (λe3=>⟨⟨by omega,by omega⟩,⟨by omega,by omega⟩,bifP (λe4=>dup (hyes ?_)) λe4=>nxt ?_⟩) λe3=>nxt ?_⟩⟩
   ·rw [hsm,e1,e2];rfl
   ·rw [hsm,e3,e4];simp
   ·rw [hsm,e2,e4];simp
   ·rw [hsm,e2,e3];simp
   ·rw [hsm,e3,e4];simp
   ·rw [hsm,e1,e4];simp
   ·rw [hsm,e1,e3];simp
  ·have hkp:k=p:=by have:=of_decide_eq_false hb;omega
   subst hkp;refine ⟨⟨by omega,by omega⟩,k+1,⟨by omega,by rw [hall,ha,hok];rfl,by rw [hfr,hf,hno];rfl⟩,by omega,by omega⟩
 ·have hle:c.length≤p:=by have:=of_decide_eq_false hb;omega
  rw [Snd.q5f c _ p hle] at ha;rw [Q9 hle] at hf;unfold Snd.q0j;rw [ha,hf,decide_eq_true (p:=c.length≤200) (by have:=of_decide_eq_false h200;omega)]
  rfl
set_option maxRecDepth 100000 in
theorem rrep_vc (x y a b:List UInt8) (h:cRRep.pre (x,y,a,b)) :
    (∃ (p':Nat),(p'≤x.length+(1:Nat)∧∀ (j:Nat),j<p'→Snd.q6y x y a b j=false)∧((0:Int)=(p':Int)∧x=x∧y=y∧a=a∧b=b∧True)∧True∧True∧True∧True
    ∧ True∧True∧True∧True∧True)∧∀ (p:Nat),(p≤x.length+(1:Nat)∧∀ (j:Nat),j<p→Snd.q6y x y a b j=false)→((-9223372036854775808:Int)≤(p:Int)+(↑a.length :
    Int)∧(p:Int)+(a.length:Int)≤(9223372036854775807:Int))∧bif decide ((p:Int)+(a.length:Int)≤(x.length:Int)) then ((-9223372036854775808:Int)≤(p:Int) +
    (a.length:Int)∧(p:Int)+(a.length:Int)≤(9223372036854775807:Int))∧((0:Int)≤(p:Int)∧(p:Int)≤(p:Int)+(a.length:Int)∧(p:Int)+(a.length:Int) ≤
    (x.length:Int))∧bif Qc (p:Int).toNat (Q0 ((p:Int)+(a.length:Int)).toNat x)==a then ((0:Int)≤(0:Int)∧(0:Int)≤(p:Int)∧(p:Int)≤(↑x.length :
    Int))∧(Qc (Qm (0:Int)) (Q0 (p:Int).toNat x)).length+b.length≤(9223372036854775807:Nat)∧((-9223372036854775808:Int)≤(p:Int)+(a.length:Int) ∧
    (p:Int)+(a.length:Int)≤(9223372036854775807:Int))∧((0:Int)≤(p:Int)+(a.length:Int)∧(p:Int)+(a.length:Int)≤(x.length:Int)∧(x.length:Int) ≤
    (x.length:Int))∧(Qc (Qm (0:Int)) (Q0 (p:Int).toNat x)++b).length+(Qc ((p:Int)+(a.length:Int)).toNat (Q0 (x.length:Int).toNat
    x)).length≤(9223372036854775807:Nat)∧bif Qc (Qm (0:Int)) (Q0 (p:Int).toNat x)++b++Qc ((p:Int)+(a.length:Int)).toNat (Q0 (↑x.length :
    Int).toNat x)==y then true=Snd.repB x y a b else ((-9223372036854775808:Int)≤(p:Int)+(1:Int)∧(p:Int)+(1:Int)≤(9223372036854775807:Int))∧∃ (p':Nat),(p' ≤
    x.length+(1:Nat)∧∀ (j:Nat),j<p'→Snd.q6y x y a b j=false)∧x.length+(1:Nat)-p'<x.length+(1:Nat)-p∧((p:Int)+(1:Int)=(p':Int)∧x=x∧y=y∧a =
    a∧b=b∧True)∧True∧True∧True∧True∧True∧True∧True∧True∧True else ((-9223372036854775808:Int)≤(p:Int)+(1:Int)∧(p:Int)+(1:Int)≤(9223372036854775807 :
    Int))∧∃ (p':Nat),(p'≤x.length+(1:Nat)∧∀ (j:Nat),j<p'→Snd.q6y x y a b j=false)∧x.length+(1:Nat)-p'<x.length+(1:Nat)-p∧((p:Int)+(1:Int)=(↑p'
    : Int)∧x=x∧y=y∧a=a∧b=b∧True)∧True∧True∧True∧True∧True∧True∧True∧True∧True else false=Snd.repB x y a b
     := by
  obtain ⟨hx,ha,hbl⟩:=h;have hx:x.length≤1000000:=hx;have ha:a.length≤1000000:=ha;have hbl:b.length≤1000000:=hbl;simp only [true_and,and_true];refine ⟨⟨0,⟨Qd _,λj hj=>by omega⟩,rfl⟩,?_⟩
  rintro p ⟨hp,hno⟩;refine ⟨⟨by omega,by omega⟩,bifP (λhb=>?_) λhb=>?_⟩
  · have hle:p+a.length≤x.length:=by have:=of_decide_eq_true hb;omega
    have e1:Qc p (Q0 (p+a.length) x)=(x.drop p).take a.length:=by rw [List.drop_take,Nat.add_sub_cancel_left]
    have e3:Qc (p+a.length) (Q0 x.length x)=x.drop (p+a.length):=by rw [Qz]
    have hat:Snd.q6y x y a b p=((x.drop p).take a.length==a&&x.take p++b++x.drop (p+a.length)==y):=by
      unfold Snd.q6y;rw [decide_eq_true hle,Qp]
    have nxt:Snd.q6y x y a b p=false→(-9223372036854775808≤(p:Int)+1∧(p:Int)+1≤9223372036854775807)∧∃ p',(p'≤x.length+1∧∀ j,j<p'→Snd.q6y x y a b j=false)∧x.length+1-p'<x.length+1-p∧(p:Int)+1=(p':Int):=λh=>⟨⟨by omega,by omega⟩,p+1,⟨by omega,λj hj=>by
      by_cases e:j=p
      · subst e;exact h
      · exact hno j (by omega)⟩,by omega,by omega⟩
    refine ⟨⟨by omega,by omega⟩,⟨by omega,by omega,by omega⟩,bifP (λh1=>?_) λh1=>nxt ?_⟩
    · have h1:((x.drop p).take a.length==a)=true:=by rw [← e1];exact h1
      refine ⟨⟨by omega,by omega,by omega⟩,?_,⟨by omega,by omega⟩,⟨by omega,by omega,by omega⟩,?_,bifP (λh2=>?_) λh2=>nxt ?_⟩
      · rw [Qi,Qf];omega
      · rw [Qo,Qi,Qf,Qi,Qf];omega
      · have h2:(x.take p++b++x.drop (p+a.length)==y)=true:=by rw [← e3];exact h2
        symm
        unfold Snd.repB;rw [Qr];exact ⟨p,Qn.2 (by omega),by rw [hat,h1,h2];rfl⟩
      · have h2:(x.take p++b++x.drop (p+a.length)==y)=false:=by rw [← e3];exact h2
        rw [hat,h2,Q8]
    · have h1:((x.drop p).take a.length==a)=false:=by rw [← e1];exact h1
      rw [hat,h1,Qg]
  · have hgt:x.length<p+a.length:=by have:=of_decide_eq_false hb;omega
    symm
    unfold Snd.repB;rw [← Qq,Qr];rintro ⟨i,_,hi⟩;by_cases e:i<p
    · rw [hno i e] at hi;cases hi
    · unfold Snd.q6y at hi
      rw [decide_eq_false (by omega)] at hi;cases hi
set_option maxRecDepth 100000 in
theorem rsounds_vc (c:CfP) (x y:List UInt8) (h:qf9.pre (c,x,y)) :
    bif x==y then true=Snd.q1i c x y else (∃ (p':Nat),(p'≤Q7 c∧(Q0 p' c).any (Snd.hitB x y)=false)∧((0:Int)=(p':Int)∧c=c∧x=x∧y=y∧True) ∧
    True∧True∧True∧True∧True∧True∧True∧True∧True)∧∀ (p:Nat),p≤Q7 c∧(Q0 p c).any (Snd.hitB x y)=false→bif decide ((p:Int)<(↑(Q7 c) :
    Int)) then ((0:Int)≤(p:Int)∧(p:Int)<(↑(Q7 c):Int))∧((0:Int)≤(p:Int)∧(p:Int)<(↑(Q7 c):Int))∧(x.length≤(1000000:Nat)∧(Q4 c
    (p:Int).toNat ([],[])).1.length≤(1000000:Nat)∧(Q4 c (p:Int).toNat ([],[])).2.length≤(1000000:Nat))∧bif Snd.repB x y (Q4 c (p:Int).toNat ([],[])).1
    (Q4 c (p:Int).toNat ([],[])).2 then true=Snd.q1i c x y else ((0:Int)≤(p:Int)∧(p:Int)<(↑(Q7 c):Int))∧((0:Int)≤(p:Int)∧(p:Int) <
    (↑(Q7 c):Int))∧(x.length≤(1000000:Nat)∧(Q4 c (p:Int).toNat ([],[])).2.length≤(1000000:Nat)∧(Q4 c (p:Int).toNat ([],[])).1.length≤(1000000 :
    Nat))∧bif Snd.repB x y (Q4 c (p:Int).toNat ([],[])).2 (Q4 c (p:Int).toNat ([],[])).1 then true=Snd.q1i c x y else ((-9223372036854775808:Int)≤(p:Int) +
    (1:Int)∧(p:Int)+(1:Int)≤(9223372036854775807:Int))∧∃ (p':Nat),(p'≤Q7 c∧(Q0 p' c).any (Snd.hitB x y)=false)∧Q7 c-p'<Q7 c-p
    ∧ ((p:Int)+(1:Int)=(p':Int)∧c=c∧x=x∧y=y∧True)∧True∧True∧True∧True∧True∧True∧True∧True∧True else false=Snd.q1i c x y
     := by
  obtain ⟨⟨hn,hq⟩,hx,hy⟩:=h;have hn:c.length≤1000000:=hn;have hx:x.length≤1000000:=hx;simp only [true_and,and_true];refine bifP (λhb=>?_) λhxy=>⟨⟨0,⟨Qd _,rfl⟩,rfl⟩,?_⟩
  · unfold Snd.q1i;rw [hb];rfl
  rintro p ⟨hp,ha⟩;have hti:((p:Int).toNat)=p:=rfl;simp only [hti];have hxy:(x==y)=false:=hxy;refine bifP (λhb=>?_) λhb=>?_
  · have hlt:p<c.length:=by have:=of_decide_eq_true hb;omega
    have hqp:=hq _ (Snd.q1p c ([],[]) p hlt);have yes:Snd.hitB x y (c.getD p ([],[]))=true→true=Snd.q1i c x y:=λh=>by
      unfold Snd.q1i;rw [Snd.any_yes c ([],[]) _ p hlt h,Qs]
    have hst:=Snd.qen c ([],[]) (Snd.hitB x y) p hlt;generalize c.getD p ([],[])=z at *
    refine ⟨⟨by omega,by omega⟩,⟨by omega,by omega⟩,⟨hx,hqp.1,hqp.2⟩,bifP (λh1=>yes ?_) λh1=>⟨⟨by omega,by omega⟩,⟨by omega,by omega⟩,⟨hx,hqp.2,hqp.1⟩,bifP (λh2=>yes ?_) λh2=>⟨⟨by omega,by omega⟩,p+1,⟨by omega,?_⟩,by omega,by omega⟩⟩⟩
    · unfold Snd.hitB;rw [h1];rfl
    · unfold Snd.hitB;rw [h2,Qs]
    · rw [hst,ha];unfold Snd.hitB;rw [h1,h2];rfl
  · have hle:c.length≤p:=by have:=of_decide_eq_false hb;omega
    rw [Q9 hle] at ha;unfold Snd.q1i;rw [hxy,ha];rfl
set_option maxRecDepth 100000 in
theorem ralike_vc (c:CfP) (x y:List UInt8) (h:cRAlike.pre (c,x,y)) :
    q0n c∧bif Snd.q0j c then x.length≤(1000000:Nat)∧bif Snd.q0a x (1:Int) (12:Int) then y.length≤(1000000:Nat)∧bif Snd.q0a y (1:Int) (12:Int) then (q0n c
    ∧ x.length≤(1000000:Nat)∧y.length≤(1000000:Nat))∧Snd.q1i c x y=Snd.q0m c x y else false=Snd.q0m c x y else false=Snd.q0m c x y else false=Snd.q0m c x y
     := by
  obtain ⟨hL,hx,hy⟩:=h;have hx:x.length≤1000000:=hx;have hy:y.length≤1000000:=hy;unfold Snd.q0m Snd.q4e;refine ⟨hL,bifP (λh1=>⟨hx,bifP (λh2=>⟨hy,bifP (λh3=>⟨⟨hL,hx,hy⟩,?_⟩) λh3=>?_⟩) λh2=>?_⟩) λh1=>?_⟩
  · rw [h1,h2,h3];rfl
  · rw [h3];simp
  · rw [h2];simp
  · rw [h1];rfl
set_option maxRecDepth 100000 in
theorem rnear_vc (lang:List UInt8) (ws:List (List UInt8)) (c:CfP) (x:List UInt8) (h:cRNear.pre ((lang,ws),c,x)) :
    q0w (lang,ws)∧bif !Snd.q0k lang ws then ([],(1:Int))=Snd.q19 lang ws c x else q0n c∧bif !Snd.q0j c then ([],(1:Int))=Snd.q19 lang ws c x else x.length ≤
    (1000000:Nat)∧bif !Snd.q0a x (1:Int) (12:Int) then ([],(1:Int))=Snd.q19 lang ws c x else (∃ (p':Nat),p'≤ws.length∧(True∧(0:Int)=(p':Int)∧c=c∧x=x ∧
    True∧True)∧((lang=lang∧ws=ws∧True)∧True)∧(Snd.q34 ws c x p'=[]∧True)∧True∧True∧True∧True∧True∧True∧True)∧∀ (p:Nat),p≤ws.length→bif decide ((↑p :
    Int)<(ws.length:Int)) then ((0:Int)≤(p:Int)∧(p:Int)<(ws.length:Int))∧(q0n c∧(ws.getD (p:Int).toNat []).length≤(1000000:Nat)∧x.length≤(1000000:Nat)) ∧
    bif Snd.q1i c (ws.getD (p:Int).toNat []) x then ((Snd.q34 ws c x p).length+[(p:Int)].length)*(8:Nat)≤(140737488355328:Nat)∧((-9223372036854775808:Int)≤(p:Int)
    + (1:Int)∧(p:Int)+(1:Int)≤(9223372036854775807:Int))∧∃ (p':Nat),p'≤ws.length∧ws.length-p'<ws.length-p∧(True∧(p:Int)+(1:Int)=(p':Int)∧c=c∧x
    = x∧True∧True)∧((lang=lang∧ws=ws∧True)∧True)∧(Snd.q34 ws c x p++[(p:Int)]=Snd.q34 ws c x p'∧True)∧True∧True∧True∧True∧True∧True∧True else
    ((-9223372036854775808:Int)≤(p:Int)+(1:Int)∧(p:Int)+(1:Int)≤(9223372036854775807:Int))∧∃ (p':Nat),p'≤ws.length∧ws.length-p'<ws.length-p∧(True∧(↑p :
    Int)+(1:Int)=(p':Int)∧c=c∧x=x∧True∧True)∧((lang=lang∧ws=ws∧True)∧True)∧(Snd.q34 ws c x p=Snd.q34 ws c x p'∧True)∧True∧True∧True∧True∧True
    ∧ True∧True else (Snd.q34 ws c x p,(0:Int))=Snd.q19 lang ws c x
     := by
  obtain ⟨hW,hL,hx⟩:=h;have hx:x.length≤1000000:=hx;have hn:ws.length≤1000000:=hW.2.1;simp only [true_and,and_true];have bad:(Snd.q0k lang ws&&(Snd.q0j c&&Snd.q4e x))=false→(([],1):List Int×Int)=Snd.q19 lang ws c x:=λh=>by
    unfold Snd.q19;rw [if_neg (by rw [h];exact QA)]
  refine ⟨hW,bifP (λhb=>bad ?_) λh1=>⟨hL,bifP (λhb=>bad ?_) λh2=>⟨hx,bifP (λhb=>bad ?_) λh3=>?_⟩⟩⟩
  · rw [show Snd.q0k lang ws=false by simpa using hb];rfl
  · rw [show Snd.q0j c=false by simpa using hb,Qg,Q8]
  · rw [show Snd.q4e x=false by simpa [Snd.q4e] using hb,Q8,Q8]
  have hok:(Snd.q0k lang ws&&(Snd.q0j c&&Snd.q4e x))=true:=by
    rw [show Snd.q0k lang ws=true by simpa using h1,show Snd.q0j c=true by simpa using h2,show Snd.q4e x=true by simpa [Snd.q4e] using h3];rfl
  refine ⟨⟨0,Qd _,rfl,rfl⟩,?_⟩;intro p hp;have hti:((p:Int).toNat)=p:=rfl;simp only [hti];refine bifP (λhb=>?_) λhb=>?_
  · have hlt:p<ws.length:=by have:=of_decide_eq_true hb;omega
    have hlen:(Snd.q34 ws c x p).length≤p:=by
      unfold Snd.q34;rw [QE];exact Nat.le_trans (List.length_filter_le _ _) (by rw [List.length_range];exact Nat.le_refl _)
    have hst:Snd.q34 ws c x (p+1)=Snd.q34 ws c x p++if Snd.q1i c (ws.getD p []) x then [(p:Int)] else []:=by
      unfold Snd.q34;rw [List.range_succ,List.filter_append,QF];cases h:Snd.q1i c (ws.getD p []) x
      · rw [QC,if_neg (by rw [h];exact QA)];rfl
      · rw [QC,if_pos h];rfl
    have hwl:=hW.2.2 _ (Snd.q1p ws [] p hlt);refine ⟨⟨by omega,by omega⟩,⟨hL,hwl,hx⟩,bifP (λhs=>?_) λhs=>?_⟩
    · refine ⟨by rw [Qk];omega,⟨by omega,by omega⟩,p+1,by omega,by omega,by omega,?_⟩
      rw [hst,hs];rfl
    · refine ⟨⟨by omega,by omega⟩,p+1,by omega,by omega,by omega,?_⟩
      rw [hst,hs];simp
  · have hle:p=ws.length:=by have:=of_decide_eq_false hb;omega
    subst hle;unfold Snd.q19;rw [if_pos hok]
set_option maxRecDepth 100000 in
theorem qb7:cRLet.Holds Tryz.prog:=by
 refine q0o (cons:=[]) Tryz.func95 (by kernel_rfl) (by kernel_rfl) mixed (by kernel_rfl) (λc h=>by cases h) (λp=>anRLet p.1) λp hp=>?_
 obtain ⟨s,lo,hi⟩:=p;refine cast ?_ (rlet_vc s lo hi hp)
 kernel_rfl
set_option maxRecDepth 100000 in
theorem qc9:qe9.Holds Tryz.prog:=by
 refine q0o (cons:=[cNameR,cRLet]) Tryz.func64 (by kernel_rfl) (by kernel_rfl) mixed (by kernel_rfl) (λc h=>by
  rcases Ql.1 h with rfl | h
  ·exact qii
  ·obtain rfl:=Qj.1 h;exact qb7) (λp=>anRValid p.2) λp hp=>?_
 obtain ⟨lang,ws⟩:=p;refine cast ?_ (rvalid_vc lang ws hp)
 kernel_rfl
set_option maxRecDepth 100000 in
theorem qap:qcj.Holds Tryz.prog:=by
 refine q0o (cons:=[cRLet]) Tryz.func46 (by kernel_rfl) (by kernel_rfl) mixed (by kernel_rfl) (λc h=>by obtain rfl:=Qj.1 h;exact qb7) (λp=>anRProper p) λp hp=>?_
 refine cast ?_ (rproper_vc p hp)
 kernel_rfl
set_option maxRecDepth 100000 in
theorem rrep_holds:cRRep.Holds Tryz.prog:=by
 refine q0o (cons:=[]) Tryz.func151 (by kernel_rfl) (by kernel_rfl) mixed (by kernel_rfl) (λc h=>by cases h) (λp=>anRRep p.1 p.2.1 p.2.2.1 p.2.2.2) λp hp=>?_
 obtain ⟨x,y,a,b⟩:=p;refine cast ?_ (rrep_vc x y a b hp)
 kernel_rfl
set_option maxRecDepth 100000 in
theorem qg3:qf9.Holds Tryz.prog:=by
 refine q0o (cons:=[cRRep]) Tryz.func126 (by kernel_rfl) (by kernel_rfl) mixed (by kernel_rfl) (λc h=>by obtain rfl:=Qj.1 h;exact rrep_holds) (λp=>anRSounds p.1 p.2.1 p.2.2) λp hp=>?_
 obtain ⟨c,x,y⟩:=p;refine cast ?_ (rsounds_vc c x y hp)
 kernel_rfl
set_option maxRecDepth 100000 in
theorem ralike_holds:cRAlike.Holds Tryz.prog:=by
 refine q0o (cons:=[qcj,cRLet,qf9]) Tryz.func120 (by kernel_rfl) (by kernel_rfl) mixed (by kernel_rfl) (λc h=>by
  rcases Ql.1 h with rfl | h
  ·exact qap
  rcases Ql.1 h with rfl | h
  ·exact qb7
  ·obtain rfl:=Qj.1 h;exact qg3) (λ_=>[]) λp hp=>?_
 obtain ⟨c,x,y⟩:=p;refine cast ?_ (ralike_vc c x y hp)
 kernel_rfl
set_option maxRecDepth 100000 in
theorem rnear_holds:cRNear.Holds Tryz.prog:=by
 refine q0o (cons:=[qe9,qcj,cRLet,qf9]) Tryz.func96 (by kernel_rfl) (by kernel_rfl) mixed (by kernel_rfl) (λc h=>by
  rcases Ql.1 h with rfl | h
  ·exact qc9
  rcases Ql.1 h with rfl | h
  ·exact qap
  rcases Ql.1 h with rfl | h
  ·exact qb7
  ·obtain rfl:=Qj.1 h;exact qg3) (λp=>anRNear p.1.2 p.2.1 p.2.2) λp hp=>?_
 obtain ⟨⟨lang,ws⟩,c,x⟩:=p;refine cast ?_ (rnear_vc lang ws c x hp)
 kernel_rfl
theorem on07_vc (p:Int×Int) (h:cOn07.pre p) :
    bif decide ((0:Int)≤p.1) then bif decide (p.1≤(32767:Int)) then bif decide ((0:Int)≤p.2) then decide (p.2≤(32767:Int))=Cod.onB p else false=Cod.onB p else false=Cod.onB
    p else false=Cod.onB p
     := by
  have hv:Cod.onB p=(decide (0≤p.1)&&(decide (p.1≤32767)&&(decide (0≤p.2)&&decide (p.2≤32767)))):=by
    rw [Bool.eq_iff_iff];unfold Cod.onB;simp only [Qh,decide_eq_true_eq];omega
  rw [hv];refine bifP (λh1=>?_) λh1=>?_
  · rw [h1]
    refine bifP (λh2=>?_) λh2=>?_
    · rw [h2]
      refine bifP (λh3=>?_) λh3=>?_
      · rw [h3];rfl
      · rw [h3];rfl
    · rw [h2];rfl
  · rw [h1];rfl
theorem dist07_vc (p q:Int×Int) (h:qhu.pre (p,q)) :
    True∧bif !Cod.onB p then (0:Int)=Cod.q1n p q else True∧bif !Cod.onB q then (0:Int)=Cod.q1n p q else ((-9223372036854775808:Int)≤p.1-q.1∧p.1-q.1 ≤
    (9223372036854775807:Int))∧((-9223372036854775808:Int)≤p.1-q.1∧p.1-q.1≤(9223372036854775807:Int))∧((-9223372036854775808:Int)≤(p.1-q.1)*(p.1-q.1)∧(p.1-q.1)
    * (p.1-q.1)≤(9223372036854775807:Int))∧((-9223372036854775808:Int)≤p.2-q.2∧p.2-q.2≤(9223372036854775807:Int))∧((-9223372036854775808:Int)≤p.2-q.2∧p.2-q.2 ≤
    (9223372036854775807:Int))∧((-9223372036854775808:Int)≤(p.2-q.2)*(p.2-q.2)∧(p.2-q.2)*(p.2-q.2)≤(9223372036854775807:Int))∧((-9223372036854775808:Int)≤(p.1 -
    q.1)*(p.1-q.1)+(p.2-q.2)*(p.2-q.2)∧(p.1-q.1)*(p.1-q.1)+(p.2-q.2)*(p.2-q.2)≤(9223372036854775807:Int))∧(p.1-q.1)*(p.1-q.1)+(p.2-q.2)*(p.2-q.2)
    = Cod.q1n p q
     := by
  simp only [true_and];refine bifP (λh1=>?_) λh1=>bifP (λh2=>?_) λh2=>?_
  · unfold Cod.q1n
    rw [show Cod.onB p=false by simpa using h1,Qg,if_neg (by decide)]
  · unfold Cod.q1n
    rw [show Cod.onB q=false by simpa using h2,Q8,if_neg (by decide)]
  · have hp:Cod.onB p=true:=by simpa using h1
    have hq:Cod.onB q=true:=by simpa using h2
    obtain ⟨⟨a1,a2⟩,a3,a4⟩:=Cod.qds hp;obtain ⟨⟨b1,b2⟩,b3,b4⟩:=Cod.qds hq;have m1:=Cod.qcn (a:=p.1-q.1) (b:=p.1-q.1) (by omega) (by omega) (by omega) (by omega)
    have m2:=Cod.qcn (a:=p.2-q.2) (b:=p.2-q.2) (by omega) (by omega) (by omega) (by omega)
    refine ⟨⟨by omega,by omega⟩,⟨by omega,by omega⟩,⟨by omega,by omega⟩,⟨by omega,by omega⟩,⟨by omega,by omega⟩,⟨by omega,by omega⟩,⟨by omega,by omega⟩,?_⟩
    rw [Cod.dist_symm];unfold Cod.q1n Cod.sq;rw [hp,hq,Bool.and_self,if_pos rfl]
set_option maxRecDepth 100000 in
theorem qev:cOn07.Holds Tryz.prog:=by
 refine q0o (cons:=[]) Tryz.func35 (by kernel_rfl) (by kernel_rfl) mixed (by kernel_rfl) all_nil (λ_=>[]) λp hp=>?_
 refine cast ?_ (on07_vc p hp)
 kernel_rfl
set_option maxRecDepth 100000 in
theorem qgc:qhu.Holds Tryz.prog:=by
 refine q0o (cons:=[cOn07]) Tryz.func85 (by kernel_rfl) (by kernel_rfl) mixed (by kernel_rfl) (all_cons qev all_nil) (λ_=>[]) λp hp=>?_
 obtain ⟨p,q⟩:=p;refine cast ?_ (dist07_vc p q hp)
 kernel_rfl
set_option maxRecDepth 100000 in
theorem qValid_holds:cQValid.Holds Tryz.prog:=by
 refine q0o (cons:=[qe9]) Tryz.func21 (by kernel_rfl) (by kernel_rfl) mixed (by kernel_rfl) (all_cons qc9 all_nil) (λp=>anQValid p.1.2.length p.2) λp hp=>?_
 obtain ⟨l,code⟩:=p;refine cast ?_ (qValid_vc l code hp)
 kernel_rfl
set_option maxRecDepth 100000 in
theorem qIn_holds:cQIn.Holds Tryz.prog:=by
 refine q0o (cons:=[cEq]) Tryz.func108 (by kernel_rfl) (by kernel_rfl) mixed (by kernel_rfl) (all_cons qk1 all_nil) (λp=>anQIn p.1 p.2) λp hp=>?_
 obtain ⟨l,x⟩:=p;refine cast ?_ (qIn_vc l x hp)
 kernel_rfl
set_option maxRecDepth 100000 in
theorem qPut_holds:cQPut.Holds Tryz.prog:=by
 refine q0o (cons:=[cEq,cQIn,cLess]) Tryz.func97 (by kernel_rfl) (by kernel_rfl) mixed (by kernel_rfl) (all_cons qk1 (all_cons qIn_holds (all_cons less_holds all_nil))) (λp=>anQPut p.1 p.2.1) λp hp=>?_
 obtain ⟨l,x,code⟩:=p;refine cast ?_ (qPut_vc l x code hp)
 kernel_rfl
set_option maxRecDepth 100000 in
theorem qMis_holds:cQMis.Holds Tryz.prog:=by
 refine q0o (cons:=[cRNear,cQPut]) Tryz.func47 (by kernel_rfl) (by kernel_rfl) mixed (by kernel_rfl) (all_cons rnear_holds (all_cons qPut_holds all_nil)) (λp=>anQMis p.1 p.2.1 p.2.2) λp hp=>?_
 obtain ⟨l,c,code⟩:=p;refine cast ?_ (qMis_vc l c code hp)
 kernel_rfl
set_option maxRecDepth 100000 in
theorem qlx:cQPlaced.Holds Tryz.prog:=by
 refine q0o (cons:=[cOn07]) Tryz.func57 (by kernel_rfl) (by kernel_rfl) mixed (by kernel_rfl) (all_cons qev all_nil) (λ_=>[]) λp hp=>?_
 refine cast ?_ (qPlaced_vc p)
 kernel_rfl
set_option maxRecDepth 100000 in
theorem qNear_holds:cQNear.Holds Tryz.prog:=by
 refine q0o (cons:=[qhu]) Tryz.func109 (by kernel_rfl) (by kernel_rfl) mixed (by kernel_rfl) (all_cons qgc all_nil) (λ_=>[]) λp hp=>?_
 obtain ⟨a,b⟩:=p;refine cast ?_ (qNear_vc a b)
 kernel_rfl
set_option maxRecDepth 100000 in
theorem qFits_holds:cQFits.Holds Tryz.prog:=by
 refine q0o (cons:=[cEq,cQIn,cQNear]) Tryz.func59 (by kernel_rfl) (by kernel_rfl) mixed (by kernel_rfl) (all_cons qk1 (all_cons qIn_holds (all_cons qNear_holds all_nil))) (λp=>anQFits p.2.1 p.2.2.2) λp hp=>?_
 obtain ⟨g,a,o,b⟩:=p;refine cast ?_ (qFits_vc g a o b hp)
 kernel_rfl
set_option maxRecDepth 100000 in
theorem qAll_holds:cQAll.Holds Tryz.prog:=by
 refine q0o (cons:=[cQMis]) Tryz.func58 (by kernel_rfl) (by kernel_rfl) mixed (by kernel_rfl) (all_cons qMis_holds all_nil) (λp=>anQAll p.1 p.2.1 p.2.2) λp hp=>?_
 obtain ⟨l,c,book⟩:=p;refine cast ?_ (qAll_vc l c book hp)
 kernel_rfl
set_option maxRecDepth 100000 in
theorem qg9:qeu.Holds Tryz.prog:=by
 refine q0o (cons:=[qe9,qcj,cNameR,cQValid,cQPlaced,cQAll,cQFits]) Tryz.func24 (by kernel_rfl) (by kernel_rfl) mixed (by kernel_rfl) (all_cons qc9 (all_cons qap (all_cons qii (all_cons qValid_holds (all_cons qlx (all_cons qAll_holds (all_cons qFits_holds all_nil))))))) (λp=>anQProper p.1 p.2.1 p.2.2) λp hp=>?_
 obtain ⟨l,c,book⟩:=p;refine cast ?_ (qProper_vc l c book hp)
 kernel_rfl
end Go.Proofs.YtlfaaoalgcbcoaaGreatDoor
namespace Go.Proofs.YtlfaaoalgcbcoaaGreatDoor
open Go.RowKit
namespace Hea
theorem mis_hit {al:Str→Str→Bool} {own words:List Str} {i:Nat} (hne:(own==words)=false) (hi:i<own.length) (h:q3u al own words i=true):true=misR al own words:=by
 unfold misR;rw [hne,Qr.2 ⟨i,Qn.2 hi,h⟩];rfl
theorem mis_none {al:Str→Str→Bool} {own words:List Str} (h:∀ j,j<own.length→q3u al own words j=false):false=misR al own words:=by
 unfold misR;have:(QG own.length).any (q3u al own words)=false:=List.any_eq_false.2 λj hj=>by rw [h j (Qn.1 hj)];simp
 rw [this,Q8]
end Hea
open R
abbrev q86 (c:CfP) (code:List Int) (p':Nat) (words:List (List UInt8)) (ws:List (List UInt8)):Prop :=
 (p'≤code.length∧∀ (j:Nat),j<p'→Hea.q3u (Snd.q0m c) (Hea.ownW ws code) words j=false)
abbrev q9k (c:CfP) (code:List Int) (p:Nat) (p':Nat) (words:List (List UInt8)) (ws:List (List UInt8)):Prop :=
 ((p:Int)+1=(p':Int)∧c=c∧zE code∧zE words∧True∧zE (Hea.ownW ws code)∧True)
abbrev qhl (code:List Int) (p:Nat) (ws:List (List UInt8)):Prop :=
 (0≤(p:Int)∧(p:Int)<(↑(([]++Hea.ownW ws code).set ((p:Int)-1).toNat ((Hea.ownW ws code).getD (p:Int).toNat [])).length:Int))
set_option maxRecDepth 100000 in
theorem misR_vc (lang:List UInt8) (ws:List (List UInt8)) (c:CfP) (code:List Int) (words:List (List UInt8)) (h:cMisR.pre ((lang,ws),c,code,words)) :
  (code.length≤(1000000:Nat)∧Cod.inB ws.length code=true)∧bif Hea.ownW ws code==words then false=Hea.misR (Snd.q0m c) (Hea.ownW ws code) words else ((∃ (p':Nat),p'≤code.length∧(True∧(0:Int)=(p':Int)∧c=c∧zE code∧zE words∧True∧True)∧((zE lang∧ws=ws∧True)∧True)∧(Hea.ownW ws (Q0 p' code)=[]∧True)∧zT7)∧∀ (p:Nat),p≤code.length→bif decide ((p:Int)<(code.length:Int)) then (0≤(p:Int)∧(p:Int)<(code.length:Int))∧((0:Int)≤code.getD (p:Int).toNat (0:Int)∧code.getD (p:Int).toNat 0<(ws.length:Int))∧((Hea.ownW ws (Q0 p code)).length+[ws.getD (code.getD (p:Int).toNat (0:Int)).toNat []].length)*(16:Nat)≤(140737488355328:Nat)∧(zFit ((p:Int)+1))∧∃ (p':Nat),p'≤code.length∧code.length-p'<code.length-p∧(True∧(p:Int)+1=(p':Int)∧c=c∧zE code∧zE words∧True∧True)∧((zE lang∧ws=ws∧True)∧True)∧(Hea.ownW ws (Q0 p code)++[ws.getD (code.getD (p:Int).toNat (0:Int)).toNat []]=Hea.ownW ws (Q0 p' code)∧True)∧zT7 else ∃ (p':Unit),True∧(Hea.ownW ws (Q0 p code)=Hea.ownW ws code∧c=c∧zE code∧zE words∧True∧True)∧((zE lang∧ws=ws∧True)∧True)∧zT8)∧∀ (p:Unit),True→(∃ (p':Nat),(q86 c code p' words ws)∧((0:Int)=(p':Int)∧c=c∧zE code∧zE words∧True∧zE (Hea.ownW ws code)∧True)∧((zE lang∧ws=ws∧True)∧True)∧zT8)∧∀ (p:Nat),(p≤code.length∧∀ (j:Nat),j<p→Hea.q3u (Snd.q0m c) (Hea.ownW ws code) words j=false)→bif decide ((p:Int)<(↑(Hea.ownW ws code).length:Int)) then ((0:Int)≤0∧0≤(p:Int)∧(p:Int)≤(↑(Hea.ownW ws code).length:Int))∧(zFit ((p:Int)+1))∧(0≤(p:Int)+1∧(p:Int)+1≤(↑(Hea.ownW ws code).length:Int)∧(↑(Hea.ownW ws code).length:Int)≤(↑(Hea.ownW ws code).length:Int))∧(([]:List (List UInt8)).length+(Qc (Qm (0:Int)) (Q0 (p:Int).toNat (Hea.ownW ws code))).length)*(16:Nat)≤(140737488355328:Nat)∧(([]++Qc (Qm (0:Int)) (Q0 (p:Int).toNat (Hea.ownW ws code))).length+(Qc ((p:Int)+1).toNat (Q0 (↑(Hea.ownW ws code).length:Int).toNat (Hea.ownW ws code))).length)*(16:Nat)≤(140737488355328:Nat)∧([]++Qc (Qm (0:Int)) (Q0 (p:Int).toNat (Hea.ownW ws code))++Qc ((p:Int)+1).toNat (Q0 (↑(Hea.ownW ws code).length:Int).toNat (Hea.ownW ws code))).length≤(1000000000000000:Nat)∧bif []++Qc (Qm (0:Int)) (Q0 (p:Int).toNat (Hea.ownW ws code))++Qc ((p:Int)+1).toNat (Q0 (↑(Hea.ownW ws code).length:Int).toNat (Hea.ownW ws code))==words then true=Hea.misR (Snd.q0m c) (Hea.ownW ws code) words else bif decide ((p:Int)<(words.length:Int)) then (0≤(p:Int)∧(p:Int)<(↑(Hea.ownW ws code).length:Int))∧(0≤(p:Int)∧(p:Int)<(words.length:Int))∧(q0n c∧((Hea.ownW ws code).getD (p:Int).toNat []).length≤(1000000:Nat)∧(words.getD (p:Int).toNat []).length≤(1000000:Nat))∧bif Snd.q0m c ((Hea.ownW ws code).getD (p:Int).toNat []) (words.getD (p:Int).toNat []) then (([]:List (List UInt8)).length+(Hea.ownW ws code).length)*(16:Nat)≤(140737488355328:Nat)∧(0≤(p:Int)∧(p:Int)<(words.length:Int))∧(0≤(p:Int)∧(p:Int)<(↑([]++Hea.ownW ws code).length:Int))∧bif (p:Int).toNat.beq (p:Int).toNat then (([]++Hea.ownW ws code).set (p:Int).toNat (words.getD (p:Int).toNat [])).length≤(1000000000000000:Nat)∧bif ([]++Hea.ownW ws code).set (p:Int).toNat (words.getD (p:Int).toNat [])==words then true=Hea.misR (Snd.q0m c) (Hea.ownW ws code) words else bif decide (0<(p:Int)) then (([]:List (List UInt8)).length+(Hea.ownW ws code).length)*(16:Nat)≤(140737488355328:Nat)∧(zFit ((p:Int)-1))∧(0≤(p:Int)∧(p:Int)<(↑(Hea.ownW ws code).length:Int))∧(0≤(p:Int)-1∧(p:Int)-1<(↑([]++Hea.ownW ws code).length:Int))∧bif ((p:Int)-1).toNat.beq ((p:Int)-1).toNat then (zFit ((p:Int)-1))∧(0≤(p:Int)-1∧(p:Int)-1<(↑(Hea.ownW ws code).length:Int))∧(qhl code p ws)∧bif (p:Int).toNat.beq (p:Int).toNat then ((([]++Hea.ownW ws code).set ((p:Int)-1).toNat ((Hea.ownW ws code).getD (p:Int).toNat [])).set (p:Int).toNat ((Hea.ownW ws code).getD ((p:Int)-1).toNat [])).length≤(1000000000000000:Nat)∧bif (([]++Hea.ownW ws code).set ((p:Int)-1).toNat ((Hea.ownW ws code).getD (p:Int).toNat [])).set (p:Int).toNat ((Hea.ownW ws code).getD ((p:Int)-1).toNat [])==words then true=Hea.misR (Snd.q0m c) (Hea.ownW ws code) words else (zFit ((p:Int)+1))∧∃ (p':Nat),(q86 c code p' words ws)∧code.length-p'<code.length-p∧(q9k c code p p' words ws)∧((zE lang∧ws=ws∧True)∧True)∧zT8 else False else False else (zFit ((p:Int)+1))∧∃ (p':Nat),(q86 c code p' words ws)∧code.length-p'<code.length-p∧(q9k c code p p' words ws)∧((zE lang∧ws=ws∧True)∧True)∧zT8 else False else bif decide (0<(p:Int)) then (([]:List (List UInt8)).length+(Hea.ownW ws code).length)*(16:Nat)≤(140737488355328:Nat)∧(zFit ((p:Int)-1))∧(0≤(p:Int)∧(p:Int)<(↑(Hea.ownW ws code).length:Int))∧(0≤(p:Int)-1∧(p:Int)-1<(↑([]++Hea.ownW ws code).length:Int))∧bif ((p:Int)-1).toNat.beq ((p:Int)-1).toNat then (zFit ((p:Int)-1))∧(0≤(p:Int)-1∧(p:Int)-1<(↑(Hea.ownW ws code).length:Int))∧(qhl code p ws)∧bif (p:Int).toNat.beq (p:Int).toNat then ((([]++Hea.ownW ws code).set ((p:Int)-1).toNat ((Hea.ownW ws code).getD (p:Int).toNat [])).set (p:Int).toNat ((Hea.ownW ws code).getD ((p:Int)-1).toNat [])).length≤(1000000000000000:Nat)∧bif (([]++Hea.ownW ws code).set ((p:Int)-1).toNat ((Hea.ownW ws code).getD (p:Int).toNat [])).set (p:Int).toNat ((Hea.ownW ws code).getD ((p:Int)-1).toNat [])==words then true=Hea.misR (Snd.q0m c) (Hea.ownW ws code) words else (zFit ((p:Int)+1))∧∃ (p':Nat),(q86 c code p' words ws)∧code.length-p'<code.length-p∧(q9k c code p p' words ws)∧((zE lang∧ws=ws∧True)∧True)∧zT8 else False else False else (zFit ((p:Int)+1))∧∃ (p':Nat),(q86 c code p' words ws)∧code.length-p'<code.length-p∧(q9k c code p p' words ws)∧((zE lang∧ws=ws∧True)∧True)∧zT8 else bif decide (0<(p:Int)) then (([]:List (List UInt8)).length+(Hea.ownW ws code).length)*(16:Nat)≤(140737488355328:Nat)∧(zFit ((p:Int)-1))∧(0≤(p:Int)∧(p:Int)<(↑(Hea.ownW ws code).length:Int))∧(0≤(p:Int)-1∧(p:Int)-1<(↑([]++Hea.ownW ws code).length:Int))∧bif ((p:Int)-1).toNat.beq ((p:Int)-1).toNat then (zFit ((p:Int)-1))∧(0≤(p:Int)-1∧(p:Int)-1<(↑(Hea.ownW ws code).length:Int))∧(qhl code p ws)∧bif (p:Int).toNat.beq (p:Int).toNat then ((([]++Hea.ownW ws code).set ((p:Int)-1).toNat ((Hea.ownW ws code).getD (p:Int).toNat [])).set (p:Int).toNat ((Hea.ownW ws code).getD ((p:Int)-1).toNat [])).length≤(1000000000000000:Nat)∧bif (([]++Hea.ownW ws code).set ((p:Int)-1).toNat ((Hea.ownW ws code).getD (p:Int).toNat [])).set (p:Int).toNat ((Hea.ownW ws code).getD ((p:Int)-1).toNat [])==words then true=Hea.misR (Snd.q0m c) (Hea.ownW ws code) words else (zFit ((p:Int)+1))∧∃ (p':Nat),(q86 c code p' words ws)∧code.length-p'<code.length-p∧(q9k c code p p' words ws)∧((zE lang∧ws=ws∧True)∧True)∧zT8 else False else False else (zFit ((p:Int)+1))∧∃ (p':Nat),(q86 c code p' words ws)∧code.length-p'<code.length-p∧(q9k c code p p' words ws)∧((zE lang∧ws=ws∧True)∧True)∧zT8 else false=Hea.misR (Snd.q0m c) (Hea.ownW ws code) words:=by
 delta q86 q9k qhl zFit zE zT7 zT8
 obtain ⟨hW,hC,hl,hin,hwl,hws⟩:=h;have hl:code.length≤1000000:=hl;have hwl:words.length≤1000000:=hwl;have hws:∀ s∈words,s.length≤1000000:=hws;have hin:Cod.inB ws.length code=true:=hin;have hti:∀ p:Nat,((p:Int)).toNat=p:=λ_=>rfl
 have hti1:∀ p:Nat,((p:Int)+1).toNat=p+1:=λ_=>rfl
 have h0:Qm 0=0:=rfl;simp only [true_and,and_true];refine ⟨⟨hl,hin⟩,bifP (λhe=>?_) λhe=>⟨⟨⟨0,Qd _,rfl,rfl⟩,λp hp=>?_⟩,λ_ _=>?_⟩⟩
 ·unfold Hea.misR;rw [he];rfl
 ·have hlen:(Hea.ownW ws (code.take p)).length=p:=by rw [Hea.ownW,QE,Qf];omega
  refine bifP (λhb=>?_) λhb=>?_
  ·have hlt:p<code.length:=by have:=of_decide_eq_true hb;omega
   have hc:=Cod.qe7 hin hlt;refine ⟨⟨by omega,by omega⟩,hc,by rw [hlen,Qk];omega,⟨by omega,by omega⟩,p+1,by omega,by omega,by omega,?_⟩
   have hg:code.getD p 0=code[p]:=by rw [Qe,Qa hlt];rfl
   rw [hti,List.take_add_one,Qa hlt,hg];simp only [Hea.ownW,QF,Option.toList_some,List.map_cons,List.map_nil]
  ·have hle:code.length≤p:=by have:=of_decide_eq_false hb;omega
   exact ⟨(),by rw [Q9 hle]⟩
 ·have holen:(Hea.ownW ws code).length=code.length:=Hea.own_len ws code
  have hows:∀ s∈Hea.ownW ws code,s.length≤1000000:=λs hs=>by
   unfold Hea.ownW at hs;obtain ⟨i,hi,rfl⟩:=List.mem_map.1 hs;have:=(List.all_eq_true.1 hin) i hi;simp only [Qh,decide_eq_true_eq] at this;have hlt:i.toNat<ws.length:=by omega
   rw [Qe,Qa hlt];exact hW.2.2 _ (QD hlt)
  generalize Hea.ownW ws code=own at he holen hows ⊢;have hgl:∀ (l:List (List UInt8)) (i:Nat),(∀ s∈l,s.length≤1000000)→(l.getD i []).length≤1000000:=λl i h=>by
   rw [Qe];by_cases hi:i<l.length
   ·rw [Qa hi];exact h _ (QD hi)
   ·rw [Qt (by omega)];exact Qd _
  refine ⟨⟨0,⟨Qd _,λj hj=>absurd hj (Nat.not_lt_zero j)⟩,rfl⟩,λp ⟨hp,hj⟩=>?_⟩
  refine bifP (λhb=>?_) λhb=>?_
  ·have hlt:p<own.length:=by have:=of_decide_eq_true hb;omega
   have hto:((own.length:Int)).toNat=own.length:=rfl;simp only [hti,hti1,h0,hto,List.nil_append,List.length_nil,Qu,Qz,Nat.zero_add,Nat.beq_refl,List.length_set,cond_true];have next:Hea.q3u (Snd.q0m c) own words p=false→((-9223372036854775808:Int)≤(p:Int)+1∧(p:Int)+1≤9223372036854775807)∧∃ p':Nat,(p'≤code.length∧∀ j,j<p'→Hea.q3u (Snd.q0m c) own words j=false)∧code.length-p'<code.length-p∧(p:Int)+1=(p':Int):=λhm =>
    ⟨⟨by omega,by omega⟩,p+1,⟨by omega,λj h=>by
     by_cases hjp:j=p
     ·subst hjp;exact hm
     ·exact hj j (by omega)⟩,by omega,by omega⟩
   have hcut:(own.take p++own.drop (p+1)).length≤1000000:=by rw [Qo,Qf,Qi];omega
   have hcut0:=hcut;rw [Qo] at hcut0;refine ⟨⟨by omega,by omega,by omega⟩,⟨by omega,by omega⟩,⟨by omega,by omega,by omega⟩,by omega,by omega,by omega,bifP (λh1=>?_) λh1=>?_⟩
   ·exact Hea.mis_hit he hlt (by unfold Hea.q3u;rw [h1,Bool.true_or,Bool.true_or])
   have swap:((decide (p<words.length)&&Snd.q0m c (own.getD p []) (words.getD p []))&&own.set p (words.getD p [])==words)=false →
     bif decide ((0:Int)<(p:Int)) then
      own.length*16≤140737488355328∧((-9223372036854775808:Int)≤(p:Int)-1∧(p:Int)-1≤9223372036854775807)∧((0:Int)≤(p:Int)∧(p:Int)<(own.length:Int))∧((0:Int)≤(p:Int)-1∧(p:Int)-1<(own.length:Int)) ∧
       ((-9223372036854775808:Int)≤(p:Int)-1∧(p:Int)-1≤9223372036854775807)∧((0:Int)≤(p:Int)-1∧(p:Int)-1<(own.length:Int))∧((0:Int)≤(p:Int)∧(p:Int)<(own.length:Int)) ∧
        own.length≤1000000000000000 ∧
        bif (own.set ((p:Int)-1).toNat (own.getD p [])).set p (own.getD ((p:Int)-1).toNat [])==words then true=Hea.misR (Snd.q0m c) own words
        else ((-9223372036854775808:Int)≤(p:Int)+1∧(p:Int)+1≤9223372036854775807)∧∃ p':Nat,(p'≤code.length∧∀ j,j<p'→Hea.q3u (Snd.q0m c) own words j=false)∧code.length-p'<code.length-p∧(p:Int)+1=(p':Int)
     else ((-9223372036854775808:Int)≤(p:Int)+1∧(p:Int)+1≤9223372036854775807)∧∃ p':Nat,(p'≤code.length∧∀ j,j<p'→Hea.q3u (Snd.q0m c) own words j=false)∧code.length-p'<code.length-p∧(p:Int)+1=(p':Int):=λh2=>by
    refine bifP (λh3=>?_) λh3=>?_
    ·have h3:=of_decide_eq_true h3
     obtain ⟨q,rfl⟩:∃ q,p=q+1:=⟨p-1,by omega⟩
     have hq:(((q+1:Nat):Int)-1).toNat=q:=by omega
     rw [hq];refine ⟨by omega,⟨by omega,by omega⟩,⟨by omega,by omega⟩,⟨by omega,by omega⟩,⟨by omega,by omega⟩,⟨by omega,by omega⟩,⟨by omega,by omega⟩,by omega,bifP (λh4=>?_) λh4=>next ?_⟩
     ·exact Hea.mis_hit he hlt (by unfold Hea.q3u;rw [decide_eq_true (Nat.succ_pos q),Qw,h4,Qp,Qs])
     ·unfold Hea.q3u;rw [h1,h2,Qw,h4,Q8];rfl
    ·have h3:=of_decide_eq_false h3
     refine next ?_;unfold Hea.q3u;rw [h1,h2,decide_eq_false (show ¬ 0<p by omega)];rfl
   refine bifP (λh2=>?_) λh2=>swap ?_
   ·have h2:=of_decide_eq_true h2
    have h2n:p<words.length:=by omega
    refine ⟨⟨by omega,by omega⟩,⟨by omega,by omega⟩,⟨hC,hgl own p hows,hgl words p hws⟩,bifP (λh3=>?_) λh3=>swap (by rw [h3,Q8,Qg])⟩
    refine ⟨by omega,⟨by omega,by omega⟩,⟨by omega,by omega⟩,by omega,bifP (λh4=>?_) λh4=>swap (by rw [h4,Q8])⟩
    exact Hea.mis_hit he hlt (by unfold Hea.q3u;rw [decide_eq_true h2n,h3,h4];simp)
   ·have h2:=of_decide_eq_false h2
    rw [decide_eq_false (show ¬ p<words.length by omega)];rfl
  ·have hle:own.length≤p:=by have:=of_decide_eq_false hb;omega
   exact Hea.mis_none λj h=>hj j (by omega)
set_option maxRecDepth 100000 in
theorem misR_holds:cMisR.Holds Tryz.prog:=by
 refine q0o (cons:=consMisR) Tryz.func80 (by kernel_rfl) (by kernel_rfl) mixed (by kernel_rfl) (all_cons qfz (all_cons qif (all_cons ralike_holds all_nil))) (λp=>anMisR p.2.1 p.1.2 p.2.2.1 p.2.2.2) λp hp=>?_
 obtain ⟨⟨lang,ws⟩,c,code,words⟩:=p;refine cast ?_ (misR_vc lang ws c code words hp)
 kernel_rfl
end Go.Proofs.YtlfaaoalgcbcoaaGreatDoor
namespace Go.Proofs.YtlfaaoalgcbcoaaGreatDoor
open Go.RowKit R
set_option maxRecDepth 100000 in
theorem said_vc (text:List UInt8) (h:cSaid.pre text) :
    bif decide ((100:Int)<(text.length:Int)) then ([],false)=Hea.q1h text else (∃ (p':Nat),(p'≤text.length∧(Q0 p' text).all Hea.okC=true)∧(True∧(0:Int)=(↑p' :
    Int)∧text=text∧True)∧True∧([[]]=Hea.cutW (Q0 p' text)∧True)∧True∧True∧True∧True∧True∧True∧True)∧∀ (p:Nat),p≤text.length∧(Q0 p text).all
    Hea.okC=true→bif decide ((p:Int)<(text.length:Int)) then ((0:Int)≤(p:Int)∧(p:Int)<(text.length:Int))∧bif (↑(text.getD (p:Int).toNat (0:UInt8)).toNat :
    Int)==(32:Int) then ((Hea.cutW (Q0 p text)).length+([[]]:List (List UInt8)).length)*(16:Nat)≤(140737488355328:Nat)∧((-9223372036854775808:Int)≤(p:Int)+(1 :
    Int)∧(p:Int)+(1:Int)≤(9223372036854775807:Int))∧∃ (p':Nat),(p'≤text.length∧(Q0 p' text).all Hea.okC=true)∧text.length-p'<text.length-p∧(True∧(↑p :
    Int)+(1:Int)=(p':Int)∧text=text∧True)∧True∧(Hea.cutW (Q0 p text)++[[]]=Hea.cutW (Q0 p' text)∧True)∧True∧True∧True∧True∧True∧True∧True
    else ((0:Int)≤(p:Int)∧(p:Int)<(text.length:Int))∧bif decide ((↑(text.getD (p:Int).toNat (0:UInt8)).toNat:Int)<(97:Int)) then ([],false)=Hea.q1h text else
    ((0:Int)≤(p:Int)∧(p:Int)<(text.length:Int))∧bif decide ((122:Int)<(↑(text.getD (p:Int).toNat (0:UInt8)).toNat:Int)) then ([],false)=Hea.q1h text else
    ((-9223372036854775808:Int)≤(↑(Hea.cutW (Q0 p text)).length:Int)-(1:Int)∧(↑(Hea.cutW (Q0 p text)).length:Int)-(1:Int)≤(9223372036854775807:Int)) ∧
    ((-9223372036854775808:Int)≤(↑(Hea.cutW (Q0 p text)).length:Int)-(1:Int)∧(↑(Hea.cutW (Q0 p text)).length:Int)-(1:Int)≤(9223372036854775807:Int))∧((0 :
    Int)≤(↑(Hea.cutW (Q0 p text)).length:Int)-(1:Int)∧(↑(Hea.cutW (Q0 p text)).length:Int)-(1:Int)<(↑(Hea.cutW (Q0 p text)).length:Int)) ∧
    ((-9223372036854775808:Int)≤(p:Int)+(1:Int)∧(p:Int)+(1:Int)≤(9223372036854775807:Int))∧((0:Int)≤(p:Int)∧(p:Int)≤(p:Int)+(1:Int)∧(p:Int) +
    (1:Int)≤(text.length:Int))∧((Hea.cutW (Q0 p text)).getD ((↑(Hea.cutW (Q0 p text)).length:Int)-(1:Int)).toNat []).length+(Qc (p:Int).toNat (Q0
    ((p:Int)+(1:Int)).toNat text)).length≤(9223372036854775807:Nat)∧((0:Int)≤(↑(Hea.cutW (Q0 p text)).length:Int)-(1:Int)∧(↑(Hea.cutW (Q0 p text)).length :
    Int)-(1:Int)<(↑(Hea.cutW (Q0 p text)).length:Int))∧bif ((↑(Hea.cutW (Q0 p text)).length:Int)-(1:Int)).toNat.beq ((↑(Hea.cutW (Q0 p text)).length:Int) -
    (1:Int)).toNat then ((-9223372036854775808:Int)≤(p:Int)+(1:Int)∧(p:Int)+(1:Int)≤(9223372036854775807:Int))∧∃ (p':Nat),(p'≤text.length∧(Q0 p'
    text).all Hea.okC=true)∧text.length-p'<text.length-p∧(True∧(p:Int)+(1:Int)=(p':Int)∧text=text∧True)∧True∧((Hea.cutW (Q0 p text)).set ((↑(Hea.cutW
    (Q0 p text)).length:Int)-(1:Int)).toNat ((Hea.cutW (Q0 p text)).getD ((↑(Hea.cutW (Q0 p text)).length:Int)-(1:Int)).toNat []++Qc (p:Int).toNat
    (Q0 ((p:Int)+(1:Int)).toNat text))=Hea.cutW (Q0 p' text)∧True)∧True∧True∧True∧True∧True∧True∧True else False else (∃ (p':Nat),(p'≤(Hea.cutW
    text).length∧(Q0 p' (Hea.cutW text)).all Hea.okL=true)∧(True∧(0:Int)=(p':Int)∧text=text∧True)∧True∧(Hea.cutW (Q0 p text)=Hea.cutW text∧True)∧True
    ∧ True∧True∧True∧True∧True∧True)∧∀ (p:Nat),p≤(Hea.cutW text).length∧(Q0 p (Hea.cutW text)).all Hea.okL=true→bif decide ((p:Int)<(↑(Hea.cutW text).length :
    Int)) then ((0:Int)≤(p:Int)∧(p:Int)<(↑(Hea.cutW text).length:Int))∧bif decide ((↑((Hea.cutW text).getD (p:Int).toNat []).length:Int)<(1:Int)) then ([],false) =
    Hea.q1h text else ((0:Int)≤(p:Int)∧(p:Int)<(↑(Hea.cutW text).length:Int))∧bif decide ((12:Int)<(↑((Hea.cutW text).getD (p:Int).toNat []).length:Int)) then ([],
    false)=Hea.q1h text else ((-9223372036854775808:Int)≤(p:Int)+(1:Int)∧(p:Int)+(1:Int)≤(9223372036854775807:Int))∧∃ (p':Nat),(p'≤(Hea.cutW text).length ∧
    (Q0 p' (Hea.cutW text)).all Hea.okL=true)∧(Hea.cutW text).length-p'<(Hea.cutW text).length-p∧(True∧(p:Int)+(1:Int)=(p':Int)∧text=text∧True)∧True ∧
    (Hea.cutW text=Hea.cutW text∧True)∧True∧True∧True∧True∧True∧True∧True else (Hea.cutW text,decide ((↑(Hea.cutW text).length:Int)≤(5:Int)))=Hea.q1h text
     := by
  simp only [true_and,and_true];refine bifP (λhb=>?_) λhb=>?_
  · have:=of_decide_eq_true hb
    unfold Hea.q1h;rw [if_pos (by omega)]
  have hlen:text.length≤100:=by have:=of_decide_eq_false hb;omega
  have hti:∀ p:Nat,((p:Int).toNat)=p:=λ_=>rfl
  have hti1:∀ p:Nat,((p:Int)+1).toNat=p+1:=λ_=>rfl
  have badC:∀ p,p<text.length→Hea.okC (text.getD p 0)=false→([],false)=Hea.q1h text:=λp hp hc=>by
    unfold Hea.q1h;rw [if_neg (by omega),if_pos (by rw [Hea.all_bad hp hc];rfl)]
  refine ⟨⟨0,⟨Qd _,rfl⟩,rfl,rfl⟩,?_⟩;rintro p ⟨hp,hall⟩;have hcl:=Hea.qem (text.take p);rw [Qf] at hcl;have hne:=List.length_pos_iff.2 (Hea.qhg (text.take p));simp only [hti,hti1];refine bifP (λhb=>?_) λhb=>?_
  · have hlt:p<text.length:=by have:=of_decide_eq_true hb;omega
    have hst:=Hea.cut_step text hlt;have hstA:Hea.okC (text.getD p 0)=true→(text.take (p+1)).all Hea.okC=true:=λh=>by rw [Hea.take_one text hlt,QH,hall,List.all_cons,List.all_nil,h];rfl
    refine ⟨⟨by omega,by omega⟩,bifP (λhs=>?_) λhs=>?_⟩
    · have h32:text.getD p 0=32:=by have:=eq_of_beq hs;exact UInt8.toNat_inj.1 (by exact_mod_cast this)
      have hs32:(text.getD p 0==32)=true:=by rw [h32];rfl
      refine ⟨by rw [Qk];omega,⟨by omega,by omega⟩,p+1,⟨by omega,hstA (by rw [Hea.okC,hs32];rfl)⟩,by omega,by omega,?_⟩
      rw [hst,Hea.stepW,if_pos hs32]
    · have hs32:(text.getD p 0==32)=false:=by
        cases h:(text.getD p 0==32)
        · rfl
        · rw [eq_of_beq h] at hs;exact absurd hs (by decide)
      refine ⟨⟨by omega,by omega⟩,bifP (λh1=>?_) λh1=>⟨⟨by omega,by omega⟩,bifP (λh2=>?_) λh2=>?_⟩⟩
      · refine badC p hlt ?_
        have:=of_decide_eq_true h1
        rw [Hea.okC,hs32,decide_eq_false (show ¬97≤(text.getD p 0).toNat by omega)];rfl
      · refine badC p hlt ?_
        have:=of_decide_eq_true h2
        rw [Hea.okC,hs32,decide_eq_false (show ¬(text.getD p 0).toNat≤122 by omega),Q8];rfl
      · have g1:=of_decide_eq_false h1
        have g2:=of_decide_eq_false h2;have hok:Hea.okC (text.getD p 0)=true:=by rw [Hea.okC,decide_eq_true (show 97≤(text.getD p 0).toNat by omega),decide_eq_true (show (text.getD p 0).toNat≤122 by omega),Bool.and_true,Qs]
        have hlast:((↑(Hea.cutW (text.take p)).length:Int)-1).toNat=(Hea.cutW (text.take p)).length-1:=by omega
        simp only [hlast,Hea.qlz text hlt];refine ⟨⟨by omega,by omega⟩,⟨by omega,by omega⟩,⟨by omega,by omega⟩,⟨by omega,by omega⟩,⟨by omega,by omega,by omega⟩,?_,⟨by omega,by omega⟩,bifP (λ_=>?_) λhx=>?_⟩
        · have:=Hea.cut_getD_len (text.take p) ((Hea.cutW (text.take p)).length-1)
          rw [Qf] at this;rw [Qk];omega
        · refine ⟨⟨by omega,by omega⟩,p+1,⟨by omega,hstA hok⟩,by omega,by omega,?_⟩
          rw [hst,Hea.stepW,if_neg (by rw [hs32];simp)]
        · rw [show Nat.beq _ _=true from Nat.beq_refl _] at hx;cases hx
  · have hle:text.length≤p:=by have:=of_decide_eq_false hb;omega
    rw [Q9 hle] at hall ⊢;have badL:∀ p,p<(Hea.cutW text).length→Hea.okL ((Hea.cutW text).getD p [])=false→([],false)=Hea.q1h text:=λp hp hc=>by
      unfold Hea.q1h;rw [if_neg (by omega),if_neg (by rw [hall];simp),if_pos (by rw [Hea.all_bad hp hc];rfl)]
    have hcl:=Hea.qem text;refine ⟨⟨0,⟨Qd _,rfl⟩,rfl,rfl⟩,?_⟩;rintro q ⟨hq,hql⟩
    try simp only [hti]
    refine bifP (λhb=>?_) λhb=>?_
    · have hlt:q<(Hea.cutW text).length:=by have:=of_decide_eq_true hb;omega
      refine ⟨⟨by omega,by omega⟩,bifP (λh1=>?_) λh1=>⟨⟨by omega,by omega⟩,bifP (λh2=>?_) λh2=>⟨⟨by omega,by omega⟩,q+1,⟨by omega,?_⟩,by omega,by omega⟩⟩⟩
      · refine badL q hlt ?_
        have:=of_decide_eq_true h1
        rw [Hea.okL,decide_eq_false (show ¬1≤((Hea.cutW text).getD q []).length by omega)];rfl
      · refine badL q hlt ?_
        have:=of_decide_eq_true h2
        rw [Hea.okL,decide_eq_false (show ¬((Hea.cutW text).getD q []).length≤12 by omega),Q8]
      · have g1:=of_decide_eq_false h1
        have g2:=of_decide_eq_false h2;rw [Hea.take_oneL _ hlt,QH,hql,List.all_cons,List.all_nil,Hea.okL,decide_eq_true (show 1≤((Hea.cutW text).getD q []).length by omega),decide_eq_true (show ((Hea.cutW text).getD q []).length≤12 by omega)];rfl
    · have hle:(Hea.cutW text).length≤q:=by have:=of_decide_eq_false hb;omega
      rw [Q9 hle] at hql;unfold Hea.q1h;rw [if_neg (by omega),if_neg (by rw [hall];simp),if_neg (by rw [hql];simp)]
      congr 1
      exact decide_eq_decide.2 (by omega)
set_option maxRecDepth 100000 in
theorem said_holds:cSaid.Holds Tryz.prog:=by
 refine q0o (cons:=[]) Tryz.func78 (by kernel_rfl) (by kernel_rfl) mixed (by kernel_rfl) all_nil (λp=>anSaid p) λp hp=>?_
 refine cast ?_ (said_vc p hp)
 kernel_rfl
set_option maxRecDepth 100000 in
theorem near42_holds:cNear42.Holds Tryz.prog:=by
 refine q0o (cons:=[qhu]) Tryz.func36 (by kernel_rfl) (by kernel_rfl) mixed (by kernel_rfl) (all_cons qgc all_nil) (λp=>anNear42 p.1 p.2) λp hp=>?_
 obtain ⟨book,pt⟩:=p;refine cast ?_ (near42_vc book pt hp)
 kernel_rfl
set_option maxRecDepth 100000 in
theorem few42_holds:cFew42.Holds Tryz.prog:=by
 refine q0o (cons:=[cFew41]) Tryz.func6 (by kernel_rfl) (by kernel_rfl) mixed (by kernel_rfl) (all_cons few41_holds all_nil) (λ_=>[]) λp hp=>?_
 obtain ⟨⟨lang,ws⟩,c,book,text⟩:=p;refine cast ?_ (few42_vc lang ws c book text hp)
 kernel_rfl
set_option maxRecDepth 100000 in
theorem head42_holds:cHead42.Holds Tryz.prog:=by
 refine q0o (cons:=[cHear.lent,cHere.lent]) Tryz.func5 (by kernel_rfl) (by kernel_rfl) mixed (by kernel_rfl) (all_cons (show cHear.lent.Holds Tryz.prog from qko) (all_cons (show cHere.lent.Holds Tryz.prog from ql9) all_nil)) (λ_=>anHead42) λp hp=>?_
 refine cast ?_ (head42_vc hp)
 kernel_rfl
set_option maxRecDepth 100000 in
theorem qHr_holds:cQHr.Holds Tryz.prog:=by
 refine q0o (cons:=[cSaid,cExact,cMisR]) Tryz.func29 (by kernel_rfl) (by kernel_rfl) mixed (by kernel_rfl) (all_cons said_holds (all_cons qfz (all_cons misR_holds all_nil))) (λp=>anQHr p.1 p.2.1 p.2.2.1 p.2.2.2) λp hp=>?_
 obtain ⟨l,c,book,text⟩:=p;refine cast ?_ (qHr_vc l c book text hp)
 kernel_rfl
set_option maxRecDepth 100000 in
theorem qHear_holds:cQHear.Holds Tryz.prog:=by
 refine q0o (cons:=[qeu,cQHr]) Tryz.func8 (by kernel_rfl) (by kernel_rfl) mixed (by kernel_rfl) (all_cons qg9 (all_cons qHr_holds all_nil)) (λ_=>[]) λp hp=>?_
 obtain ⟨l,c,book,text⟩:=p;refine cast ?_ (qHear_vc l c book text hp)
 kernel_rfl
set_option maxRecDepth 100000 in
theorem qHere_holds:cQHere.Holds Tryz.prog:=by
 refine q0o (cons:=[qeu,cOn07,cNear42,cQHr]) Tryz.func10 (by kernel_rfl) (by kernel_rfl) mixed (by kernel_rfl) (all_cons qg9 (all_cons qev (all_cons near42_holds (all_cons qHr_holds all_nil)))) (λ_=>[]) λp hp=>?_
 obtain ⟨l,c,book,⟨x,y⟩,text⟩:=p;refine cast ?_ (qHere_vc l c book x y text hp)
 kernel_rfl
theorem consHm_ok:∀ c∈consHm,c.Holds Tryz.prog :=
 all_cons head42_holds (all_cons few42_holds (all_cons qko (all_cons ql9 (all_cons qHear_holds (all_cons qHere_holds all_nil)))))
set_option maxRecDepth 100000 in
theorem lhm_holds:cLHm.Holds Tryz.prog:=by
 refine q0o (cons:=consHm) Tryz.func3 (by kernel_rfl) (by kernel_rfl) mixed (by kernel_rfl) consHm_ok (λ_=>[]) λp hp=>?_
 obtain ⟨l,c,book,⟨x,y⟩,text⟩:=p;refine cast ?_ (lhm_vc l c book x y text hp)
 kernel_rfl
end Go.Proofs.YtlfaaoalgcbcoaaGreatDoor
namespace Go.Proofs.YtlfaaoalgcbcoaaGreatDoor
open Go.RowKit Go.ChangeShapes Go.WideShapes
namespace R
def fldK (T:TypeId→Option Kds) (P:Program):List Field→Nat→Option Kds
 | [],_=>none
 | [f],o=>match T f.type with
  | some fs=>bif f.offset.beq o&&(P.cellsOf f.type).beq fs.size then some fs else none
  | none=>none
 | f::g::r,o=>match T f.type,fldK T P (g::r) (o+P.cellsOf f.type) with
  | some fs,some gs=>bif f.offset.beq o&&(P.cellsOf f.type).beq fs.size then some (fs.app gs) else none
  | _,_=>none
def repK (fs:Kds):Nat→Option Kds
 | 0=>none
 | 1=>some fs
 | n+2=>match repK fs (n+1) with
  | some gs=>some (fs.app gs)
  | none=>none
def tyK (P:Program):Nat→TypeId→Option Kds
 | 0,_=>none
 | n+1,t=>match P.underlying t with
  | some (.int k)=>some (.one (.int k))
  | some .bool=>some (.one .bool)
  | some .string=>some (.one .str)
  | some (.slice e)=>match tyK P n e with
   | some fs=>bif (P.cellsOf e).beq fs.size then some (.one (.sl fs)) else none
   | none=>none
  | some (.struct F)=>match fldK (tyK P n) P F.toList 0 with
   | some fs=>bif (P.cellsOf t).beq fs.size then some fs else none
   | none=>none
  | some (.array len e)=>match tyK P n e with
   | some fs=>bif (P.cellsOf e).beq fs.size then (match repK fs len with
    | some gs=>bif (P.cellsOf t).beq gs.size then some gs else none
    | none=>none) else none
   | none=>none
  | _=>none
def ckT (P:Program) (t:TypeId):Option CK :=
 match P.underlying t with
 | some (.struct _)=>(tyK P 20 t).map .agg
 | some (.array _ _)=>none
 | _=>match tyK P 20 t with
  | some (.one k)=>some (.one k)
  | _=>none
def appPay:(fs:Kds)→{gs:Kds}→fs.Pay→gs.Pay→(fs.app gs).Pay
 | .one _,_,p,q=>(p,q)
 | .cons _ ks,_,p,q=>(p.1,appPay ks p.2 q)
theorem qjy:∀ (fs gs:Kds),(fs.app gs).size=fs.size+gs.size
 | .one k,gs=>by show gs.size+1=1+gs.size;omega
 | .cons k ks,gs=>by show (ks.app gs).size+1=ks.size+1+gs.size;rw [qjy];omega
theorem app_big:∀ (fs:Kds) {gs:Kds} (p:fs.Pay) (q:gs.Pay),fs.Big p→gs.Big q→(fs.app gs).Big (appPay fs p q)
 | .one k,gs,p,q,hp,hq=>⟨hp,hq⟩
 | .cons k ks,gs,p,q,hp,hq=>⟨hp.1,app_big ks p.2 q hp.2 hq⟩
section
variable {H:Type} {enc:TypeId×Value→H} {P:Program} {w:World} {base:Nat} {spare:Nat→Bool} {held:Bool}
theorem qgj:∀ (fs:Kds) {gs:Kds} (p:fs.Pay) (q:gs.Pay) (cs ds:List Value),q2n w fs p cs→q2n w gs q ds→q2n w (fs.app gs) (appPay fs p q) (cs++ds)
 | .one k,gs,p,q,cs,ds,hp,hq=>by
  obtain ⟨v,rfl,hv⟩:=hp;exact ⟨v,ds,rfl,hv,hq⟩
 | .cons k ks,gs,p,q,cs,ds,hp,hq=>by
  obtain ⟨v,r,rfl,hv,hr⟩:=hp;exact ⟨v,r++ds,rfl,hv,qgj ks p.2 q r ds hr hq⟩
def Opens (enc:TypeId×Value→H) (P:Program) (w:World) (base:Nat) (spare:Nat→Bool) (held:Bool) (t:TypeId) (fs:Kds):Prop :=
 ∀ (fuel:Nat) (cs:List Value) (x:DataW H×List MemPlace),QI enc P w base spare held fuel t cs=some x→∃ p,q2n w fs p cs∧fs.Big p
theorem fld_opens {T:TypeId→Option Kds} (hT:∀ t fs,T t=some fs→Opens enc P w base spare held t fs):∀ (l:List Field) (o:Nat) (fs:Kds),fldK T P l o=some fs→∀ (n:Nat) (cs:List Value),cs.length=o+fs.size →
  (∀ (i:Nat) (f:Field),l[i]? = some f→∃ y,QI enc P w base spare held n f.type ((cs.drop f.offset).take (P.cellsOf f.type))=some y)→∃ p,q2n w fs p (cs.drop o)∧fs.Big p
 | [],o,fs,h,n,cs,hc,hx=>by cases h
 | [f],o,fs,h,n,cs,hc,hx=>by
  have h:(match T f.type with
   | some fs=>bif f.offset.beq o&&(P.cellsOf f.type).beq fs.size then some fs else none
   | none=>none)=some fs:=h
  split at h
  ·rename_i gs hg
   cases hb:(f.offset.beq o&&(P.cellsOf f.type).beq gs.size)
   ·rw [hb] at h;cases h
   ·rw [hb] at h
    injection h with h;subst h;rw [Qh] at hb;have h1:=Qb hb.1;have h2:=Qb hb.2;obtain ⟨y,hy⟩:=hx 0 f rfl;rw [h1,h2,Q9 (by rw [Qi];omega)] at hy
    exact hT _ _ hg n _ y hy
  ·cases h
 | f::g::r,o,fs,h,n,cs,hc,hx=>by
  have h:(match T f.type,fldK T P (g::r) (o+P.cellsOf f.type) with
   | some fs,some gs=>bif f.offset.beq o&&(P.cellsOf f.type).beq fs.size then some (fs.app gs) else none
   | _,_=>none)=some fs:=h
  split at h
  ·rename_i k1 k2 hg hr
   cases hb:(f.offset.beq o&&(P.cellsOf f.type).beq k1.size)
   ·rw [hb] at h;cases h
   ·rw [hb] at h
    injection h with h;subst h;rw [Qh] at hb;have h1:=Qb hb.1;have h2:=Qb hb.2;rw [qjy] at hc;obtain ⟨y,hy⟩:=hx 0 f rfl;rw [h1,h2] at hy;obtain ⟨p,hp,hbp⟩:=hT _ _ hg n _ y hy;obtain ⟨q,hq,hbq⟩:=fld_opens hT (g::r) _ k2 hr n cs (by omega) λi f' hi=>hx (i+1) f' hi
    refine ⟨appPay k1 p q,?_,app_big k1 p q hbp hbq⟩;have:=qgj k1 p q _ _ hp hq;rw [h2,← QJ,Qv] at this;exact this
  ·cases h
theorem rep_opens {e:TypeId} {fs:Kds} (hT:Opens enc P w base spare held e fs) (hce:P.cellsOf e=fs.size):∀ (len:Nat) (gs:Kds),repK fs len=some gs→∀ (n i0:Nat) (cs:List Value),cs.length=i0*fs.size+gs.size →
  (∀ (i:Nat),i<len→∃ y,QI enc P w base spare held n e ((cs.drop ((i0+i)*P.cellsOf e)).take (P.cellsOf e))=some y)→∃ p,q2n w gs p (cs.drop (i0*fs.size))∧gs.Big p
 | 0,gs,h,n,i0,cs,hc,hx=>by cases h
 | 1,gs,h,n,i0,cs,hc,hx=>by
  have h:some fs=some gs:=h;injection h with h;subst h;obtain ⟨y,hy⟩:=hx 0 Nat.one_pos;rw [hce,Nat.add_zero,Q9 (by rw [Qi];omega)] at hy
  exact hT n _ y hy
 | len+2,gs,h,n,i0,cs,hc,hx=>by
  have h:(match repK fs (len+1) with
   | some gs=>some (fs.app gs)
   | none=>none)=some gs:=h
  split at h
  ·rename_i k2 hr
   injection h with h;subst h;rw [qjy] at hc;obtain ⟨y,hy⟩:=hx 0 (by omega)
   rw [hce,Nat.add_zero] at hy;obtain ⟨p,hp,hbp⟩:=hT n _ y hy;obtain ⟨q,hq,hbq⟩:=rep_opens hT hce (len+1) k2 hr n (i0+1) cs (by rw [Nat.succ_mul];omega) λi hi=>by
    have:=hx (i+1) (by omega)
    rwa [show i0+1+i=i0+(i+1) by omega]
   refine ⟨appPay fs p q,?_,app_big fs p q hbp hbq⟩;have:=qgj fs p q _ _ hp hq;rw [Nat.succ_mul,← QJ,Qv] at this;exact this
  ·cases h
theorem qc7:∀ (n:Nat) (t:TypeId) (fs:Kds),tyK P n t=some fs→Opens enc P w base spare held t fs
 | 0,t,fs,h=>by cases h
 | n+1,t,fs,h=>by
  intro fuel cs x hx;unfold tyK at h;split at h
  ·rename_i k hu
   injection h with h;subst h;obtain ⟨m,h1,h2,h3⟩:=DataW.trod_int hu hx;exact ⟨m,⟨_,h1,rfl⟩,by first | exact h3 | exact h3.1 | exact h3.2⟩
  ·rename_i hu
   injection h with h;subst h;obtain ⟨b,h1,_⟩:=DataW.trod_bool hu hx;exact ⟨b,⟨_,h1,rfl⟩,trivial⟩
  ·rename_i hu
   injection h with h;subst h;obtain ⟨s,h1,_,h3⟩:=DataW.trod_string hu hx;exact ⟨s.data.toList,⟨_,h1,rfl⟩,h3⟩
  ·rename_i e hu
   split at h
   ·rename_i gs hg
    cases hb:(P.cellsOf e).beq gs.size
    ·rw [hb] at h;cases h
    ·rw [hb] at h
     injection h with h;subst h;have hce:=Qb hb;have hO:=qc7 n e gs hg;rcases Go.Deep.open_slice hu hx with ⟨rfl,_⟩ | ⟨a,len,cap,m,k,D,Pl,rfl,hbb,hlc,hm,hmm,_,hxx⟩
     ·exact ⟨([]:List gs.Pay),⟨_,rfl,none,0,rfl,Nat.le_refl _,λh=>absurd h (Nat.lt_irrefl _)⟩,Qd _,λx h=>by cases h⟩
     ·have hlm:len≤m:=by rw [hmm];split <;> omega
      have each:∀ i,i<len→∃ p:gs.Pay,∀ g o,a=⟨g,o,none⟩→gs.Rep w (Here w) p g (o+i*gs.size)∧gs.Big p:=λi hi=>by
       obtain ⟨cs',h1,h2⟩:=hxx i (by omega)
       obtain ⟨p,hp,hbig⟩:=hO k cs' _ h2;refine ⟨p,λg o ha=>⟨q2n.row gs p cs' g _ hp λj hj=>?_,hbig⟩⟩
       subst ha;obtain ⟨_,hl,hc⟩:=Qx h1;have:=hc j (by omega)
       rw [add_pl',add_pl',hce] at this;exact this
      obtain ⟨f,hf⟩:∃ f:Nat→gs.Pay,∀ i,i<len→∀ g o,a=⟨g,o,none⟩→gs.Rep w (Here w) (f i) g (o+i*gs.size)∧gs.Big (f i):=by
       haveI:Inhabited gs.Pay:=⟨gs.dflt⟩
       exact Go.Deep.choose_lt each
      have hlen:((QG len).map f).length=len:=by simp
      have hpl:0<len→∃ g o,a=⟨g,o,none⟩∧g<w.heap.size:=λhpos=>by
       obtain ⟨cs',h1,_⟩:=hxx 0 (by omega)
       obtain ⟨_,hl,hc⟩:=Qx h1;have:=hc 0 (by rw [hce];exact gs.q7k)
       rw [Nat.zero_mul] at this;have hlt:0<cs'.length:=by rw [hl,hce];exact gs.q7k
       rw [Qa hlt] at this;have ha:a.add 0=a:=by unfold Addr.add;simp
       rw [ha] at this;exact cell_plain' this
      refine ⟨((QG len).map f:List gs.Pay),⟨_,rfl,some a,cap,by rw [hlen],by rw [hlen];exact hlc,λhpos=>?_⟩,?_,?_⟩
      ·rw [hlen] at hpos
       obtain ⟨g,o,rfl,hg⟩:=hpl hpos;refine ⟨g,o,rfl,hg,hg,λi x hi=>?_⟩
       have hil:i<len:=by
        rcases Nat.lt_or_ge i len with h' | h'
        ·exact h'
        ·rw [Qt (by rw [hlen];exact h')] at hi;cases hi
       rw [List.getElem?_map,List.getElem?_range hil] at hi;injection hi with hi;subst hi;exact (hf i hil g o rfl).1
      ·rw [hlen];unfold maxLen at hm;omega
      ·intro x hx'
       obtain ⟨i,hi,rfl⟩:=List.mem_map.1 hx';have hi:=Qn.1 hi;obtain ⟨g,o,ha,hg⟩:=hpl (by omega)
       exact (hf i hi g o ha).2
   ·cases h
  ·rename_i F hu
   split at h
   ·rename_i gs hg
    cases hb:(P.cellsOf t).beq gs.size
    ·rw [hb] at h;cases h
    ·rw [hb] at h
     injection h with h;subst h;have hct:=Qb hb;obtain ⟨xs,m,rfl,_,hl,hxl,hxx⟩:=DataW.trod_struct hu hx;have:=fld_opens (qc7 n) F.toList 0 gs hg m cs (by omega) λi f hi=>by
      have h1:F[i]? = some f:=by rw [← Array.getElem?_toList];exact hi
      have h2:=hxx i f h1;have hil:i<xs.length:=by
       rw [hxl];exact (Array.getElem?_eq_some_iff.1 h1).1
      rw [Qa hil] at h2;exact ⟨_,h2⟩
     rwa [Qu] at this
   ·cases h
  ·rename_i len e hu
   split at h
   ·rename_i fs1 hg
    cases hb1:(P.cellsOf e).beq fs1.size
    ·rw [hb1] at h;cases h
    ·rw [hb1] at h
     have hce:=Qb hb1;dsimp only [cond_true] at h;split at h
     ·rename_i gs hr
      cases hb:(P.cellsOf t).beq gs.size
      ·rw [hb] at h;cases h
      ·rw [hb] at h
       injection h with h;subst h;have hct:=Qb hb;obtain ⟨xs,m,rfl,_,hl,hxl,hxx⟩:=DataW.trod_array hu hx;have:=rep_opens (qc7 n e fs1 hg) hce len gs hr m 0 cs (by omega) λi hi=>by
        have h2:=hxx i hi;rw [Qa (by omega)] at h2
        rw [Nat.zero_add];exact ⟨_,h2⟩
       rwa [Nat.zero_mul,Qu] at this
     ·cases h
   ·cases h
  ·cases h
theorem qch {r:Reach} {b0:Nat} (x:CK) (t:TypeId) (ht:ckT P t=some x) {v:Value} {d:DataW H} {ps:List MemPlace} (hv:Value.okWide P w r b0 t v) (h:DataW.Trod enc P w base spare held t v d ps) :
  ∃ p:x.Pay,(x.comp p).Rep (Cx.of (Here w)) w v∧x.Big p:=by
 obtain ⟨fuel,hf⟩:=h;unfold ckT at ht;split at ht
 ·rename_i F hu
  cases hk:tyK P 20 t with
  | none=>rw [hk] at ht;cases ht
  | some ks =>
   rw [hk] at ht;injection ht with ht;subst ht;obtain ⟨cs,rfl,hsz⟩:=okWide_struct hu hv;obtain ⟨p,hp,hb⟩:=qc7 20 t ks hk fuel _ _ hf;obtain ⟨h1,h2,h3⟩:=q2n.reps ks p _ hp;refine ⟨p,⟨cs,rfl,?_,λi c hi=>?_,λi u hi=>?_⟩,hb⟩
   ·rw [← h3];simp [Qy]
   ·obtain ⟨u,hu,hr⟩:=h1 i c hi
    exact ⟨u,by simpa [Qy] using hu,hr⟩
   ·exact h2 i u (by simpa [Qy] using hi)
 ·cases ht
 ·rename_i hns hna
  split at ht
  ·rename_i k hk
   injection ht with ht;subst ht;have hone:v.cells.toList=[v]:=by
    unfold tyK at hk;split at hk
    ·rename_i hu;obtain ⟨n,rfl⟩:=okWide_int hu hv;rfl
    ·rename_i hu;obtain ⟨n,rfl⟩:=okWide_bool hu hv;rfl
    ·rename_i hu;obtain ⟨n,rfl⟩:=okWide_string hu hv;rfl
    ·rename_i hu;obtain ⟨a,n,c,rfl⟩:=okWide_slice hu hv;rfl
    ·rename_i hu;exact absurd hu (hns _)
    ·rename_i hu;exact absurd hu (hna _ _)
    ·cases hk
   obtain ⟨p,⟨v',h1,h2⟩,h3⟩:=qc7 20 t (.one k) hk fuel _ _ hf;rw [hone] at h1;injection h1 with h1;subst h1;exact ⟨p,h2,h3⟩
  ·cases ht
end
end R
end Go.Proofs.YtlfaaoalgcbcoaaGreatDoor

/-
  Several texts in one: CrE, CrB, SzBR, SzCR, HeSd.
-/
import Derived.Test.YtlfaaoalgcbcoaaGreatDoorPR
import Derived.Test.YtlfaaoalgcbcoaaGreatDoorPA
import Derived.Test.YtlfaaoalgcbcoaaGreatDoorPP
open List renaming take→Q0,getD_eq_getElem?_getD→Q4,length→Q5,drop→Q6,getD→Q8,getElem?_eq_getElem→Q9,length_take→Qc,take_length→Qe,length_singleton→Qg,getElem_mem→Qk,length_drop→Ql,length_append→Qm,mem_singleton→Qp,take_of_length_le→Qq,any_eq_true→Qt,eraseIdx_eq_take_drop_succ→Qv,length_nil→Qw,length_map→Qx,all_append→Qy,all_cons→Qz,mem_cons→QD,all_nil→QF,nil_append→QG,filter_cons→QL,length_set→QM,any_append→QN,replicate→QO,drop_zero→QP
open Nat renaming zero_le→Q7,le_trans→Qn,mul_le_mul_right→Qr,zero_add→QE,not_lt_zero→QH,beq_refl→QI,lt_or_ge→QJ
open Bool renaming and_false→Qa,not_eq_false'→Qb,not_eq_true'→Qf,or_true→Qh,false_and→Qi,and_eq_true→Qo,true_or→Qs,not_eq_true→Qu,and_true→QA,true_and→QC,noConfusion→QK
open Int renaming toNat_natCast→Qd,toNat→Qj
set_option linter.unusedVariables false
namespace Go.Proofs.YtlfaaoalgcbcoaaGreatDoor
open Go.RowKit R
set_option maxRecDepth 100000 in
theorem qText_vc (l:WlP) (code:List Int) (h:cQText.pre (l,code)) :
    (q0j l∧code.length≤(1000000:Nat))∧bif !Cod.q0q l.1 l.2 code then ([],(1:Int))=Cod.q56 l.1 l.2 code else (∃ (p':Nat),p'≤code.length∧([]=Cod.q3w l.2 (Q0 p'
    code)∧(0:Int)=(p':Int)∧code=code∧True∧True)∧((l.1=l.1∧l.2=l.2∧True)∧True)∧True∧True∧True∧True∧True∧True∧True∧True)∧∀ (p:Nat),p≤code.length
    → bif decide ((p:Int)<(code.length:Int)) then bif decide ((0:Int)<(p:Int)) then Q5 (Cod.q3w l.2 (Q0 p code))+[(32:UInt8)].length≤(9223372036854775807 :
    Nat)∧((0:Int)≤(p:Int)∧(p:Int)<(code.length:Int))∧((0:Int)≤code.getD (p:Int).toNat (0:Int)∧code.getD (p:Int).toNat (0:Int)<(l.2.length:Int)) ∧
    (Cod.q3w l.2 (Q0 p code)++[(32:UInt8)]).length+(l.2.getD (code.getD (p:Int).toNat (0:Int)).toNat []).length≤(9223372036854775807:Nat)∧((-9223372036854775808:Int)
    ≤ (p:Int)+(1:Int)∧(p:Int)+(1:Int)≤(9223372036854775807:Int))∧∃ (p':Nat),p'≤code.length∧code.length-p'<code.length-p∧(Cod.q3w l.2 (Q0 p code) ++
    [(32:UInt8)]++l.2.getD (code.getD (p:Int).toNat (0:Int)).toNat []=Cod.q3w l.2 (Q0 p' code)∧(p:Int)+(1:Int)=(p':Int)∧code=code∧True∧True)∧((l.1 =
    l.1∧l.2=l.2∧True)∧True)∧True∧True∧True∧True∧True∧True∧True∧True else ((0:Int)≤(p:Int)∧(p:Int)<(code.length:Int))∧((0:Int)≤code.getD (↑p :
    Int).toNat (0:Int)∧code.getD (p:Int).toNat (0:Int)<(l.2.length:Int))∧Q5 (Cod.q3w l.2 (Q0 p code))+(l.2.getD (code.getD (p:Int).toNat (0:Int)).toNat
    []).length≤(9223372036854775807:Nat)∧((-9223372036854775808:Int)≤(p:Int)+(1:Int)∧(p:Int)+(1:Int)≤(9223372036854775807:Int))∧∃ (p':Nat),p'≤code.length ∧
    code.length-p'<code.length-p∧(Cod.q3w l.2 (Q0 p code)++l.2.getD (code.getD (p:Int).toNat (0:Int)).toNat []=Cod.q3w l.2 (Q0 p' code)∧(p:Int)+(1 :
    Int)=(p':Int)∧code=code∧True∧True)∧((l.1=l.1∧l.2=l.2∧True)∧True)∧True∧True∧True∧True∧True∧True∧True∧True else (Cod.q3w l.2 (Q0 p code),(0 :
    Int))=Cod.q56 l.1 l.2 code
     := by
  obtain ⟨hW,hl⟩:q0j l∧code.length≤1000:=h;simp only [true_and,and_true,eq_self,and_self];refine ⟨⟨hW,by omega⟩,bifP (λc1=>?_) λc1=>⟨⟨0,Q7 _,rfl,rfl⟩,λk hk=>?_⟩⟩
  · unfold Cod.q56;rw [cast (Qf _) c1];rfl
  have hcode:=cast (Qb _) c1;obtain ⟨hin,h5⟩:=Cod.q4l hcode;have hjl:=joinM_len hW.2.2 (code.take k);rw [Qc,Nat.min_eq_left hk] at hjl;refine bifP (λhb=>?_) λhb=>?_
  · have hlt:k<code.length:=by have:=of_decide_eq_true hb;omega
    simp only [Qd];obtain ⟨g0,g1⟩:=Cod.qis hin hlt;have hw:(l.2.getD (code.getD k 0).toNat []).length≤1000000:=hW.2.2 _ (Snd.q1n l.2 [] _ (by omega))
    have hjl2:k*1000001≤5000005:=by omega
    refine bifP (λhb=>?_) λhb=>?_
    · have hk0:0<k:=by have:=of_decide_eq_true hb;omega
      refine ⟨by rw [Qg];omega,by omega,⟨g0,g1⟩,by rw [Qm,Qg];omega,by omega,k+1,by omega,by omega,?_,by omega⟩
      rw [Snd.q0t code 0 k hlt,qll l.2 (code.getD k 0) (by
        intro e;have:=congrArg Q5 e;rw [Qc,Qw] at this;omega),List.append_assoc]
      rfl
    · have hk0:k=0:=by have:=of_decide_eq_false hb;omega
      subst hk0;have h0:(Cod.q3w l.2 (code.take 0)).length=0:=rfl;refine ⟨by omega,⟨g0,g1⟩,Qn (Nat.add_le_add (Nat.le_of_eq h0) hw) (by decide),by omega,0+1,by omega,by omega,?_,by omega⟩
      rw [Snd.q0t code 0 0 hlt];rfl
  · rw [Qq (by have:=of_decide_eq_false hb;omega)]
    unfold Cod.q56;rw [if_pos hcode]
set_option maxRecDepth 100000 in
theorem qMist_vc (l:WlP) (c:CfP) (code:List Int) (h:cQMist.pre (l,c,code)) :
    (q0j l∧code.length≤(1000000:Nat))∧bif !Cod.q0q l.1 l.2 code then ([],(1:Int))=(q05 l c).q3x code else q0n c∧bif !Snd.q0h c then ([],(1:Int))=(q05 l
    c).q3x code else (q41 l c∧qec l code)∧(Cod.q1y ((q05 l c).miss code),(0:Int))=(q05 l c).q3x code
     := by
  obtain ⟨hE,hl⟩:q41 l c∧code.length≤1000:=h
  try simp only [true_and,and_true,eq_self,and_self]
  have hF:(q05 l c).q3x code=if (Snd.q0c l.1 l.2&&Snd.q0h c)&&Cod.q0q l.1 l.2 code then (Cod.q1y ((q05 l c).miss code),0) else ([],1):=rfl
  rw [hF];refine ⟨⟨hE.1,by omega⟩,bifP (λc1=>?_) λc1=>⟨hE.2.1,bifP (λc2=>?_) λc2=>?_⟩⟩
  · rw [cast (Qf _) c1,Qa];rfl
  · rw [cast (Qf _) c2,Qa,Qi];rfl
  · have hcode:=cast (Qb _) c1
    have hv:Snd.q0c l.1 l.2=true:=by
      unfold Cod.q0q at hcode;rw [Qo] at hcode;exact hcode.1
    obtain ⟨hin,h5⟩:=Cod.q4l hcode;rw [hcode,hv,cast (Qb _) c2];exact ⟨⟨hE,hl,hin⟩,rfl⟩
abbrev zCrE0_0 (l:List Int) (p:Nat×List Int):Prop :=
 (0≤(l.length:Int)-1-(p.1:Int)∧(l.length:Int)-1-(p.1:Int)<(↑(p.2.set ((l.length:Int)-1-(p.1:Int)).toNat (p.2.getD ((l.length:Int)-1-(p.1:Int)).toNat (0:Int)+1)).length:Int))
set_option maxRecDepth 100000 in
theorem qNext_vc (l:List Int) (n:Int) (h:cQNext.pre (l,n)) :
  (([]:List Int).length+l.length)*(8:Nat)≤(140737488355328:Nat)∧(zFit ((↑([]++l).length:Int)-1))∧(∃ (p':Nat×List Int),qb0 n l p'.1 p'.2∧(True∧(↑([]++l).length:Int)-1=(l.length:Int)-1-(p'.1:Int)∧l=l∧n=n∧True)∧True∧([]++l=p'.2∧True)∧zT7)∧∀ (p:Nat×List Int),qb0 n l p.1 p.2→bif decide (0≤(l.length:Int)-1-(p.1:Int)) then (0≤(l.length:Int)-1-(p.1:Int)∧(l.length:Int)-1-(p.1:Int)<(p.2.length:Int))∧(zFit (p.2.getD ((l.length:Int)-1-(p.1:Int)).toNat (0:Int)+1))∧(0≤(l.length:Int)-1-(p.1:Int)∧(l.length:Int)-1-(p.1:Int)<(p.2.length:Int))∧bif ((l.length:Int)-1-(p.1:Int)).toNat.beq ((l.length:Int)-1-(p.1:Int)).toNat then (zCrE0_0 l p)∧bif decide ((p.2.set ((l.length:Int)-1-(p.1:Int)).toNat (p.2.getD ((l.length:Int)-1-(p.1:Int)).toNat (0:Int)+1)).getD ((l.length:Int)-1-(p.1:Int)).toNat (0:Int)<n) then (p.2.set ((l.length:Int)-1-(p.1:Int)).toNat (p.2.getD ((l.length:Int)-1-(p.1:Int)).toNat (0:Int)+1),true)=q9k (l,n) else (zCrE0_0 l p)∧bif ((l.length:Int)-1-(p.1:Int)).toNat.beq ((l.length:Int)-1-(p.1:Int)).toNat then (zFit ((l.length:Int)-1-(p.1:Int)-1))∧∃ (p':Nat×List Int),qb0 n l p'.1 p'.2∧l.length-p'.1<l.length-p.1∧(True∧(l.length:Int)-1-(p.1:Int)-1=(l.length:Int)-1-(p'.1:Int)∧l=l∧n=n∧True)∧True∧((p.2.set ((l.length:Int)-1-(p.1:Int)).toNat (p.2.getD ((l.length:Int)-1-(p.1:Int)).toNat (0:Int)+1)).set ((l.length:Int)-1-(p.1:Int)).toNat (0:Int)=p'.2∧True)∧zT7 else False else False else ([],false)=q9k (l,n):=by
 delta zCrE0_0 zFit zT7
 obtain ⟨hl,h0,hn,hd⟩:l.length≤1000∧0≤n∧n≤1000000∧∀ d∈l,0≤d∧d<n:=h;simp only [true_and,and_true,eq_self,and_self,QG,Qw,QE,QI,cond_true,QM];refine ⟨by omega,by omega,⟨(0,l),⟨Q7 _,by simp,by simp⟩,by simp,rfl⟩,?_⟩
 rintro ⟨p,r⟩ ⟨hp,hr,ha⟩;dsimp only at hp hr ha ⊢;have hrl:r.length=l.length:=by rw [hr,Qm,Qc,List.length_replicate];omega
 refine bifP (λhb=>?_) λhb=>?_
 ·have hpl:p<l.length:=by have:=of_decide_eq_true hb;omega
  have e1:((l.length:Int)-1-(p:Int)).toNat=l.length-1-p:=by omega
  simp only [e1];obtain ⟨r1,r2,r3⟩:=Cod.qlz hpl ha;rw [← hr] at r1 r2 r3;have hdig:=hd _ (Snd.q1n l 0 (l.length-1-p) (by omega))
  rw [r1,Cod.q80 (by omega)]
  refine ⟨by omega,by omega,by omega,by omega,bifP (λc1=>?_) λc1=>⟨by omega,by omega,(p+1,_),⟨hpl,(r3 ?_).1,(r3 ?_).2⟩,by dsimp only;omega,by dsimp only;omega,rfl⟩⟩
  ·have hx:=r2 (of_decide_eq_true c1)
   unfold q9k;dsimp only;rw [hx,if_pos rfl]
  all_goals have:=of_decide_eq_false c1;omega
 ·have hpl:p=l.length:=by have:=of_decide_eq_false hb;omega
  subst hpl;unfold q9k;dsimp only;rw [if_neg (by rw [Cod.qfo ha];decide)]
abbrev q8r:Prop :=
 (([]:List UInt8)=[]∧True∧zE false∧zE (0:Int)∧zE (0:Int)∧True)
abbrev zCrE1_1 (co:List Int) (d:List UInt8) (l:WlP) (p:GvSt) (p':GvSt) (pl:Bool) (size:Int) (x:Int) (y:Int):Prop :=
 (((Cod.q0k (d,co,pl,x,y) p.old).1=(Cod.q0k (d,co,pl,x,y) p'.old).1∧GvSt.code l.2.length size.toNat p=(Cod.q0k (d,co,pl,x,y) p'.old).2.1∧(Cod.q0k (d,co,pl,x,y) p.old).2.2.1=(Cod.q0k (d,co,pl,x,y) p'.old).2.2.1∧(Cod.q0k (d,co,pl,x,y) p.old).2.2.2.1=(Cod.q0k (d,co,pl,x,y) p'.old).2.2.2.1∧(Cod.q0k (d,co,pl,x,y) p.old).2.2.2.2=(Cod.q0k (d,co,pl,x,y) p'.old).2.2.2.2∧True)∧(zE l.1∧zE l.2∧True)∧q8r∧True)
abbrev zCrE1_2 (l:WlP) (p:GvSt) (size:Int):Prop :=
 ((GvSt.code l.2.length size.toNat p).length≤(1000:Nat)∧0≤(l.2.length:Int)∧(l.2.length:Int)≤1000000∧∀ (d:Int),d∈GvSt.code l.2.length size.toNat p→(0:Int)≤d∧d<(l.2.length:Int))
abbrev zCrE1_3 (book:List Cod.Giv) (c:CfP) (l:WlP) (p:GvSt) (p':GvSt) (size:Int):Prop :=
 ((q9k (GvSt.code l.2.length size.toNat p,(l.2.length:Int))).1=GvSt.code l.2.length size.toNat p'∧(q9k (GvSt.code l.2.length size.toNat p,(l.2.length:Int))).2=p'.more∧c=c∧zE book∧zE size∧True∧True∧True∧zE (0:Int)∧zE (Cod.allM (q05 l c) book)∧True)
set_option maxRecDepth 100000 in
theorem qGive_vc (l:WlP) (c:CfP) (book:List Cod.Giv) (d:List UInt8) (co:List Int) (pl:Bool) (x y:Int) (size:Int) (h:cQGive.pre (l,c,book,(d,co,pl,x,y),size)) :
  (q41 l c∧FewBk book)∧bif !(q05 l c).proper book then (([],[],false,(0:Int),(0:Int)),(1:Int))=(q05 l c).q0p book (d,co,pl,x,y) size else bif decide (size<(3:Int)) then (([],[],false,(0:Int),(0:Int)),(1:Int))=(q05 l c).q0p book (d,co,pl,x,y) size else bif decide ((5:Int)<size) then (([],[],false,(0:Int),(0:Int)),(1:Int))=(q05 l c).q0p book (d,co,pl,x,y) size else bif decide (0<(co.length:Int)) then (([],[],false,(0:Int),(0:Int)),(1:Int))=(q05 l c).q0p book (d,co,pl,x,y) size else d.length≤(1000000:Nat)∧bif !Lx.q0v d then (([],[],false,(0:Int),(0:Int)),(1:Int))=(q05 l c).q0p book (d,co,pl,x,y) size else True∧bif !Cod.q1g (d,co,pl,x,y) then (([],[],false,(0:Int),(0:Int)),(1:Int))=(q05 l c).q0p book (d,co,pl,x,y) size else (∃ (p':Nat),(p'≤book.length∧((Q0 p' book).any λ(x:Cod.Giv)=>x.1==d)=false)∧((0:Int)=(p':Int)∧c=c∧zE book∧zE size∧True∧True∧True∧zE (0:Int)∧True)∧((zE l.1∧zE l.2∧True)∧(d=d∧co=co∧pl=pl∧x=x∧y=y∧True)∧q8r∧True)∧zT8)∧∀ (p:Nat),p≤book.length∧((Q0 p book).any λ(x:Cod.Giv)=>x.1==d)=false→bif decide ((p:Int)<(book.length:Int)) then (0≤(p:Int)∧(p:Int)<(book.length:Int))∧bif (book.getD (p:Int).toNat ([],[],false,(0:Int),(0:Int))).1==d then (([],[],false,(0:Int),(0:Int)),(8:Int))=(q05 l c).q0p book (d,co,pl,x,y) size else (zFit ((p:Int)+1))∧∃ (p':Nat),(p'≤book.length∧((Q0 p' book).any λ(x:Cod.Giv)=>x.1==d)=false)∧book.length-p'<book.length-p∧((p:Int)+1=(p':Int)∧c=c∧zE book∧zE size∧True∧True∧True∧zE (0:Int)∧True)∧((zE l.1∧zE l.2∧True)∧(d=d∧co=co∧pl=pl∧x=x∧y=y∧True)∧q8r∧True)∧zT8 else bif (book.length:Int)==(20000:Int) then (([],[],false,(0:Int),(0:Int)),(22:Int))=(q05 l c).q0p book (d,co,pl,x,y) size else (q41 l c∧SmallB l book)∧(((0:Int)≤size∧zE size∧size*(↑(8:Nat):Int)≤140737488355328)∧∃ (p':Unit),True∧(zE (QO size.toNat (0:Int))∧c=c∧zE book∧zE size∧True∧True∧True∧zE (0:Int)∧zE (Cod.allM (q05 l c) book)∧True)∧((zE l.1∧zE l.2∧True)∧(d=d∧co=co∧pl=pl∧x=x∧y=y∧True)∧q8r∧True)∧zT8)∧∀ (p:Unit),True→(∃ (p':GvSt),GvAt (q05 l c) book (d,co,pl,x,y) size.toNat p'∧(QO size.toNat (0:Int)=GvSt.code l.2.length size.toNat p'∧true=p'.more∧c=c∧zE book∧zE size∧True∧True∧True∧zE (0:Int)∧zE (Cod.allM (q05 l c) book)∧True)∧((d=(Cod.q0k (d,co,pl,x,y) p'.old).1∧co=(Cod.q0k (d,co,pl,x,y) p'.old).2.1∧pl=(Cod.q0k (d,co,pl,x,y) p'.old).2.2.1∧x=(Cod.q0k (d,co,pl,x,y) p'.old).2.2.2.1∧y=(Cod.q0k (d,co,pl,x,y) p'.old).2.2.2.2∧True)∧(zE l.1∧zE l.2∧True)∧q8r∧True)∧zT8)∧∀ (p:GvSt),GvAt (q05 l c) book (d,co,pl,x,y) size.toNat p→bif p.more then (q41 l c∧qec l (GvSt.code l.2.length size.toNat p))∧(∃ (p':Nat),p'≤book.length∧((true=(Q0 p' book).all λ(o:Cod.Giv)=>(q05 l c).apart o (Cod.q0k (d,co,pl,x,y) (GvSt.code l.2.length size.toNat p)))∧(0:Int)=(p':Int)∧c=c∧zE book∧zE size∧True∧True∧True∧zE (0:Int)∧zE (Cod.allM (q05 l c) book)∧zE (GvSt.code l.2.length size.toNat p)∧zE p.more∧zE (Cod.q1y ((q05 l c).miss (GvSt.code l.2.length size.toNat p)))∧True)∧((zE l.1∧zE l.2∧True)∧(zE ((Cod.q0k (d,co,pl,x,y) p.old).1)∧zE (GvSt.code l.2.length size.toNat p)∧zE ((Cod.q0k (d,co,pl,x,y) p.old).2.2.1)∧zE ((Cod.q0k (d,co,pl,x,y) p.old).2.2.2.1)∧zE ((Cod.q0k (d,co,pl,x,y) p.old).2.2.2.2)∧True)∧q8r∧True)∧zT8)∧∀ (p_1:Nat),p_1≤book.length→bif decide ((p_1:Int)<(book.length:Int)) then bif (Q0 p_1 book).all λ(o:Cod.Giv)=>(q05 l c).apart o (Cod.q0k (d,co,pl,x,y) (GvSt.code l.2.length size.toNat p)) then (0≤(p_1:Int)∧(p_1:Int)<(book.length:Int))∧(0≤(p_1:Int)∧(p_1:Int)<(↑(Cod.allM (q05 l c) book).length:Int))∧((book.getD (p_1:Int).toNat ([],[],false,(0:Int),(0:Int))).2.1.length≤(1000000:Nat)∧q2c ((Cod.allM (q05 l c) book).getD (p_1:Int).toNat [])∧q2c (Cod.q1y ((q05 l c).miss (GvSt.code l.2.length size.toNat p))))∧(zFit ((p_1:Int)+1))∧∃ (p':Nat),p'≤book.length∧book.length-p'<book.length-p_1∧((Cod.q7i (book.getD (p_1:Int).toNat ([],[],false,(0:Int),(0:Int))) ((Cod.allM (q05 l c) book).getD (p_1:Int).toNat []) ((Cod.q0k (d,co,pl,x,y) p.old).1,GvSt.code l.2.length size.toNat p,(Cod.q0k (d,co,pl,x,y) p.old).2.2) (Cod.q1y ((q05 l c).miss (GvSt.code l.2.length size.toNat p)))=(Q0 p' book).all λ(o:Cod.Giv)=>(q05 l c).apart o (Cod.q0k (d,co,pl,x,y) (GvSt.code l.2.length size.toNat p)))∧(p_1:Int)+1=(p':Int)∧c=c∧zE book∧zE size∧True∧True∧True∧zE (0:Int)∧zE (Cod.allM (q05 l c) book)∧zE (GvSt.code l.2.length size.toNat p)∧zE p.more∧zE (Cod.q1y ((q05 l c).miss (GvSt.code l.2.length size.toNat p)))∧True)∧((zE l.1∧zE l.2∧True)∧(zE ((Cod.q0k (d,co,pl,x,y) p.old).1)∧zE (GvSt.code l.2.length size.toNat p)∧zE ((Cod.q0k (d,co,pl,x,y) p.old).2.2.1)∧zE ((Cod.q0k (d,co,pl,x,y) p.old).2.2.2.1)∧zE ((Cod.q0k (d,co,pl,x,y) p.old).2.2.2.2)∧True)∧q8r∧True)∧zT8 else bif (Q0 p_1 book).all λ(o:Cod.Giv)=>(q05 l c).apart o (Cod.q0k (d,co,pl,x,y) (GvSt.code l.2.length size.toNat p)) then (((Cod.q0k (d,co,pl,x,y) p.old).1,GvSt.code l.2.length size.toNat p,(Cod.q0k (d,co,pl,x,y) p.old).2.2),(0:Int))=(q05 l c).q0p book (d,co,pl,x,y) size else (zCrE1_2 l p size)∧∃ (p':GvSt),GvAt (q05 l c) book (d,co,pl,x,y) size.toNat p'∧((l.2.length ^ size.toNat-p'.k+bif p'.more then (1:Nat) else (0:Nat))<l.2.length ^ size.toNat-p.k+bif p.more then (1:Nat) else (0:Nat))∧(zCrE1_3 book c l p p' size)∧(zCrE1_1 co d l p p' pl size x y)∧zT8 else bif (Q0 p_1 book).all λ(o:Cod.Giv)=>(q05 l c).apart o (Cod.q0k (d,co,pl,x,y) (GvSt.code l.2.length size.toNat p)) then (((Cod.q0k (d,co,pl,x,y) p.old).1,GvSt.code l.2.length size.toNat p,(Cod.q0k (d,co,pl,x,y) p.old).2.2),(0:Int))=(q05 l c).q0p book (d,co,pl,x,y) size else (zCrE1_2 l p size)∧∃ (p':GvSt),GvAt (q05 l c) book (d,co,pl,x,y) size.toNat p'∧((l.2.length ^ size.toNat-p'.k+bif p'.more then (1:Nat) else (0:Nat))<l.2.length ^ size.toNat-p.k+bif p.more then (1:Nat) else (0:Nat))∧(zCrE1_3 book c l p p' size)∧(zCrE1_1 co d l p p' pl size x y)∧zT8 else (([],[],false,(0:Int),(0:Int)),(22:Int))=(q05 l c).q0p book (d,co,pl,x,y) size:=by
 delta q8r zCrE1_1 zCrE1_2 zCrE1_3 zFit zE zT8
 obtain ⟨hE,hB,hd⟩:q41 l c∧FewBk book∧d.length≤1000000:=h;have hW:=hE.1;have hws:=hE.2.2;have hbl:=hB.1;simp only [true_and,and_true,eq_self,and_self];refine ⟨⟨hE,hB⟩,bifP (λc1=>?_) λc1=>bifP (λc2=>?_) λc2=>bifP (λc3=>?_) λc3=>bifP (λc4=>?_) λc4=>⟨hd,bifP (λc5=>?_) λc5=>bifP (λc6=>?_) λc6=>?_⟩⟩
 ·exact (Cod.give_bad (cast (Qf _) c1)).symm
 ·exact (Cod.q4r (by simp only [c2,Qh,Qs])).symm
 ·exact (Cod.q4r (by simp only [c3,Qh,Qs])).symm
 ·exact (Cod.q4r (by simp only [c4,Qh,Qs])).symm
 ·exact (Cod.q4r (by simp only [c5,Qh,Qs])).symm
 ·exact (Cod.q4r (by simp only [c6,Qh])).symm
 have hp:=cast (Qb _) c1;have h3:=of_decide_eq_false c2;have h5:=of_decide_eq_false c3;have hc:¬ 0<(((d,co,pl,x,y):Cod.Giv).2.1.length:Int):=of_decide_eq_false c4;have hn:Lx.q0v ((d,co,pl,x,y):Cod.Giv).1=true:=cast (Qb _) c5;have hpl:Cod.q1g (d,co,pl,x,y)=true:=cast (Qb _) c6;have hmem:∀ k,k<book.length→book.getD k giv0∈book:=λk hkl=>by
  rw [Q4,Q9 hkl];exact Qk hkl
 have hgood:=hp;rw [Cod.qbp] at hgood;obtain ⟨hok,_,hall,_⟩:=hgood;have hcode:∀ g∈book,Cod.inB l.2.length g.2.1=true∧g.2.1.length≤5:=λg hg=>by
  have:=hall g hg
  unfold Cod.okG at this;simp only [Qo] at this;exact Cod.q4l this.2.2
 have hn0:0<l.2.length:=Cod.qkv hok;refine ⟨⟨0,⟨Q7 _,rfl⟩,rfl⟩,?_⟩;rintro k ⟨hk,ha⟩;refine bifP (λhb=>?_) λhb=>?_
 ·have hkl:k<book.length:=by have:=of_decide_eq_true hb;omega
  simp only [Qd];refine ⟨by omega,bifP (λc7=>?_) λc7=>⟨by omega,k+1,⟨by omega,?_⟩,by omega,by omega⟩⟩
  ·exact (Cod.qmg hp h3 h5 hc hn hpl (Qt.2 ⟨_,hmem k hkl,c7⟩)).symm
  ·rw [Snd.q0t book giv0 k hkl,QN,ha,List.any_cons,List.any_nil,Bool.or_false];exact c7
 have:k=book.length:=by have:=of_decide_eq_false hb;omega
 subst this;rw [Qe] at ha;refine bifP (λc7=>?_) λ_=>?_
 ·have:=eq_of_beq c7;omega
 have hopen:=Cod.give_open hp h3 h5 hc hn hpl ha (by omega)
 refine ⟨⟨hE,hbl,λg hg=>⟨(hB.2 g hg).2,(hcode g hg).1⟩⟩,⟨⟨by omega,by omega⟩,(),trivial⟩,?_⟩
 rintro - -;have hcl:∀ q:GvSt,q.more=true→q.code l.2.length size.toNat=Cod.dig l.2.length size.toNat q.k:=λq h=>by unfold GvSt.code;rw [h];rfl
 refine ⟨⟨⟨0,true,co⟩,⟨λj hj=>absurd hj (QH _),λ_=>Nat.pow_pos hn0,λh=>by cases h⟩,⟨(Cod.dig_zero _ _).symm,rfl⟩,rfl,rfl,rfl,rfl,rfl⟩,?_⟩
 rintro q ⟨hq1,hq2,hq3⟩;refine bifP (λcm=>?_) λcm=>?_
 rotate_left
 ·rw [hopen,Cod.qko _ _ (λj hj=>hq1 j (by
   have:=hq3 cm
   have:(q05 l c).ws.length ^ size.toNat=l.2.length ^ size.toNat:=rfl
   omega))];rfl
 have hkn:q.k<l.2.length ^ size.toNat:=hq2 cm;rw [hcl q cm];have hin:Cod.inB l.2.length (Cod.dig l.2.length size.toNat q.k)=true:=Cod.dig_in hn0 _ _;have hdl:(Cod.dig l.2.length size.toNat q.k).length=size.toNat:=Cod.dig_len _ _ _;have hLm:q2c (Cod.q1y ((q05 l c).miss (Cod.dig l.2.length size.toNat q.k))):=qdk (by omega) hW.2.1
 refine ⟨⟨hE,by omega,hin⟩,⟨0,Q7 _,rfl,rfl⟩,λi hi=>?_⟩
 have hal:(Cod.allM (q05 l c) book).length=book.length:=by unfold Cod.allM;rw [Qx]
 have out:∀ b:Bool,((book.take i).all λo=>(q05 l c).apart o (Cod.q0k (d,co,pl,x,y) (Cod.dig l.2.length size.toNat q.k)))=b→(i=book.length∨b=false) →
   bif b then (((Cod.q0k (d,co,pl,x,y) q.old).1,Cod.dig l.2.length size.toNat q.k,(Cod.q0k (d,co,pl,x,y) q.old).2.2),(0:Int))=(q05 l c).q0p book (d,co,pl,x,y) size
   else ((Cod.dig l.2.length size.toNat q.k).length≤1000∧(0:Int)≤(l.2.length:Int)∧(l.2.length:Int)≤1000000∧∀ z:Int,z∈Cod.dig l.2.length size.toNat q.k→0≤z∧z<(l.2.length:Int)) ∧
    ∃ p':GvSt,GvAt (q05 l c) book (d,co,pl,x,y) size.toNat p'∧(l.2.length ^ size.toNat-p'.k+(bif p'.more then 1 else 0))<l.2.length ^ size.toNat-q.k+(bif q.more then 1 else 0) ∧
     ((q9k (Cod.dig l.2.length size.toNat q.k,(l.2.length:Int))).1=GvSt.code l.2.length size.toNat p'∧(q9k (Cod.dig l.2.length size.toNat q.k,(l.2.length:Int))).2=p'.more) ∧
     (Cod.q0k (d,co,pl,x,y) q.old).1=(Cod.q0k (d,co,pl,x,y) p'.old).1∧Cod.dig l.2.length size.toNat q.k=(Cod.q0k (d,co,pl,x,y) p'.old).2.1∧(Cod.q0k (d,co,pl,x,y) q.old).2.2.1=(Cod.q0k (d,co,pl,x,y) p'.old).2.2.1 ∧
     (Cod.q0k (d,co,pl,x,y) q.old).2.2.2.1=(Cod.q0k (d,co,pl,x,y) p'.old).2.2.2.1∧(Cod.q0k (d,co,pl,x,y) q.old).2.2.2.2=(Cod.q0k (d,co,pl,x,y) p'.old).2.2.2.2:=λb hbv hib=>by
  cases b with
  | true =>
   have hie:i=book.length:=hib.elim id λh=>by cases h
   subst hie;rw [Qe] at hbv;show _=_;rw [hopen,Cod.tryG_at (i:=q.k) hbv _ 0 (Q7 _) (by rw [QE];exact hkn) hq1]
   rfl
  | false =>
   have hno:(q05 l c).takes book (Cod.q0k (d,co,pl,x,y) (Cod.dig l.2.length size.toNat q.k))=false:=takes_no hbv;have hnot:∀ j,j<q.k+1→(q05 l c).takes book (Cod.q0k (d,co,pl,x,y) (Cod.dig l.2.length size.toNat j))=false:=λj hj=>by
    rcases QJ j q.k with h' | h'
    ·exact hq1 j h'
    ·obtain rfl:j=q.k:=by omega
     exact hno
   refine ⟨⟨by omega,by omega,by omega,λz hz=>?_⟩,?_⟩
   ·obtain ⟨m,hm,em⟩:=List.getElem_of_mem hz
    have:=Cod.qis hin hm
    rw [Q4,Q9 hm,em] at this;exact this
   rw [cm];obtain ⟨x1,x2⟩:=Cod.next_dig hn0 hkn;by_cases hlast:q.k+1<l.2.length ^ size.toNat
   ·refine ⟨⟨q.k+1,true,Cod.dig l.2.length size.toNat q.k⟩,⟨hnot,λ_=>hlast,λh=>(by cases h)⟩,by simp only [cond_true];omega,?_,rfl,rfl,rfl,rfl,rfl⟩
    unfold q9k GvSt.code;dsimp only;rw [x1 hlast,if_pos rfl];exact ⟨rfl,rfl⟩
   ·have hke:q.k+1=l.2.length ^ size.toNat:=by omega
    refine ⟨⟨q.k+1,false,Cod.dig l.2.length size.toNat q.k⟩,⟨hnot,λh=>(by cases h),λ_=>hke⟩,by simp only [cond_true,cond_false];omega,?_,rfl,rfl,rfl,rfl,rfl⟩
    unfold q9k GvSt.code;dsimp only;rw [if_neg (by rw [x2 (by omega)];decide)]
    exact ⟨rfl,rfl⟩
 refine bifP (λhb3=>?_) λhb3=>?_
 ·have hil:i<book.length:=by have:=of_decide_eq_true hb3;omega
  simp only [Qd];cases hbv:((book.take i).all λo=>(q05 l c).apart o (Cod.q0k (d,co,pl,x,y) (Cod.dig l.2.length size.toNat q.k)))
  ·exact out false hbv (.inr rfl)
  ·have hL:q2c (Cod.q1y ((q05 l c).miss (book.getD i giv0).2.1)):=qdk (by have:=(hcode _ (hmem i hil)).2;omega) hW.2.1
   have hfit:=Cod.qls (q05 l c) (book.getD i giv0) ((Cod.q0k (d,co,pl,x,y) q.old).1,Cod.dig l.2.length size.toNat q.k,(Cod.q0k (d,co,pl,x,y) q.old).2.2);rw [Cod.ql4 _ _ hil giv0,hfit];refine ⟨by omega,by omega,⟨Qn (hcode _ (hmem i hil)).2 (by decide),hL,hLm⟩,by omega,i+1,by omega,by omega,?_,by omega⟩
   rw [Snd.q0t book giv0 i hil,Qy,hbv,Qz,QF,QA,QC];rfl
 ·have hie:i=book.length:=by have:=of_decide_eq_false hb3;omega
  exact out _ rfl (.inl hie)
set_option maxRecDepth 100000 in
theorem qValid_vc (l:WlP) (code:List Int) (h:qcb.pre (l,code)) :
    (∃ (p':Nat),(p'≤code.length∧Cod.inB l.2.length (Q0 p' code)=true)∧((0:Int)=(p':Int)∧code=code∧True∧True)∧((l.1=l.1∧l.2=l.2∧True)∧True)∧True ∧
    True∧True∧True∧True∧True∧True∧True)∧∀ (p:Nat),p≤code.length∧Cod.inB l.2.length (Q0 p code)=true→bif decide ((p:Int)<(code.length:Int)) then ((0:Int)
    ≤ (p:Int)∧(p:Int)<(code.length:Int))∧bif decide (code.getD (p:Int).toNat (0:Int)<(0:Int)) then false=Cod.q0q l.1 l.2 code else ((0:Int)≤(p:Int)∧(↑p :
    Int)<(code.length:Int))∧bif decide ((l.2.length:Int)≤code.getD (p:Int).toNat (0:Int)) then false=Cod.q0q l.1 l.2 code else ((-9223372036854775808:Int)≤(p:Int) +
    (1:Int)∧(p:Int)+(1:Int)≤(9223372036854775807:Int))∧∃ (p':Nat),(p'≤code.length∧Cod.inB l.2.length (Q0 p' code)=true)∧code.length-p'<code.length-p ∧
    ((p:Int)+(1:Int)=(p':Int)∧code=code∧True∧True)∧((l.1=l.1∧l.2=l.2∧True)∧True)∧True∧True∧True∧True∧True∧True∧True∧True else q0j l∧bif
    Snd.q0c l.1 l.2 then bif decide ((3:Int)≤(code.length:Int)) then decide ((code.length:Int)≤(5:Int))=Cod.q0q l.1 l.2 code else false=Cod.q0q l.1 l.2 code else false =
    Cod.q0q l.1 l.2 code
     := by
  obtain ⟨hW,hl⟩:q0j l∧code.length≤1000000:=h;simp only [true_and,and_true,eq_self,and_self];have hF:Cod.q0q l.1 l.2 code=(Snd.q0c l.1 l.2&&(decide (3≤(code.length:Int))&&(decide ((code.length:Int)≤5)&&Cod.inB l.2.length code))):=rfl;refine ⟨⟨0,⟨Q7 _,rfl⟩,rfl⟩,?_⟩;rintro k ⟨hk,hi⟩;refine bifP (λhb=>?_) λhb=>?_
  · have hkl:k<code.length:=by have:=of_decide_eq_true hb;omega
    simp only [Qd];have hno:¬ (0≤code.getD k 0∧code.getD k 0<(l.2.length:Int))→false=Cod.q0q l.1 l.2 code:=λhn=>Cod.qkq λht=>hn (Cod.qis (Cod.q4l ht).1 hkl)
    refine ⟨by omega,bifP (λc1=>hno ?_) λc1=>⟨by omega,bifP (λc2=>hno ?_) λc2=>⟨by omega,k+1,⟨by omega,?_⟩,by omega,by omega⟩⟩⟩
    · have:=of_decide_eq_true c1;omega
    · have:=of_decide_eq_true c2;omega
    · unfold Cod.inB at hi ⊢
      rw [Snd.q0t code 0 k hkl,Qy,hi,Qz,QF];have h1:=of_decide_eq_false c1;have h2:=of_decide_eq_false c2;rw [decide_eq_true (show 0≤code.getD k 0 by omega),decide_eq_true (show code.getD k 0<(l.2.length:Int) by omega)];rfl
  · have:k=code.length:=by have:=of_decide_eq_false hb;omega
    subst this;rw [Qe] at hi;rw [hF,hi,QA];refine ⟨hW,bifP (λc1=>bifP (λc2=>?_) λc2=>?_) λc1=>?_⟩
    · rw [c1,c2];rfl
    · rw [c2,Qi,Qa]
    · rw [c1];rfl
set_option maxRecDepth 100000 in
theorem qIn_vc (l:List (List Int)) (x:List Int) (h:cQIn.pre (l,x)) :
    (∃ (p':Nat),(p'≤l.length∧((Q0 p' l).any λ(y:List Int)=>y==x)=false)∧((0:Int)=(p':Int)∧l=l∧x=x∧True)∧True∧True∧True∧True∧True∧True ∧
    True∧True∧True)∧∀ (p:Nat),p≤l.length∧((Q0 p l).any λ(y:List Int)=>y==x)=false→bif decide ((p:Int)<(l.length:Int)) then ((0:Int)≤(p:Int)∧(↑p
    : Int)<(l.length:Int))∧(l.getD (p:Int).toNat []).length≤(1000000000000000:Nat)∧bif l.getD (p:Int).toNat []==x then true=l.any λ(y:List Int)=>y==x else
    ((-9223372036854775808:Int)≤(p:Int)+(1:Int)∧(p:Int)+(1:Int)≤(9223372036854775807:Int))∧∃ (p':Nat),(p'≤l.length∧((Q0 p' l).any λ(y:List Int)=>y
    == x)=false)∧l.length-p'<l.length-p∧((p:Int)+(1:Int)=(p':Int)∧l=l∧x=x∧True)∧True∧True∧True∧True∧True∧True∧True∧True∧True else false =
    l.any λ(y:List Int)=>y==x
     := by
  obtain ⟨hl,hx⟩:l.length≤1000000000∧∀ y∈l,y.length≤1000000:=h;simp only [true_and,and_true,eq_self,and_self];refine ⟨⟨0,⟨Q7 _,rfl⟩,rfl⟩,?_⟩;rintro k ⟨hk,hi⟩;refine bifP (λhb=>?_) λhb=>?_
  · have hkl:k<l.length:=by have:=of_decide_eq_true hb;omega
    simp only [Qd];have hm:l.getD k []∈l:=by
      rw [Q4,Q9 hkl];exact Qk hkl
    refine ⟨by omega,Qn (hx _ hm) (by decide),bifP (λc1=>?_) λc1=>⟨by omega,k+1,⟨by omega,?_⟩,by omega,by omega⟩⟩
    · exact (Qt.2 ⟨_,hm,c1⟩).symm
    · rw [Snd.q0t l [] k hkl,QN,hi,List.any_cons,List.any_nil,Bool.or_false];exact c1
  · have:k=l.length:=by have:=of_decide_eq_false hb;omega
    subst this;rw [Qe] at hi;exact hi.symm
set_option maxRecDepth 100000 in
theorem qPut_vc (l:List (List Int)) (x code:List Int) (h:cQPut.pre (l,x,code)) :
    x.length≤(1000000000000000:Nat)∧bif x==code then l=Cod.putR l x code else q2c l∧bif l.any λ(y:List Int)=>y==x then l=Cod.putR l x code else (∃ (p':Nat),(p' ≤
    l.length∧((Q0 p' l).all λ(y:List Int)=>Cod.q3u y x)=true)∧((0:Int)=(p':Int)∧l=l∧x=x∧code=code∧True)∧True∧True∧True∧True∧True∧True ∧
    True∧True∧True)∧∀ (p:Nat),p≤l.length∧((Q0 p l).all λ(y:List Int)=>Cod.q3u y x)=true→bif decide ((p:Int)<(l.length:Int)) then ((0:Int)≤(p:Int)
    ∧ (p:Int)<(l.length:Int))∧(l.getD (p:Int).toNat []).length≤(1000000000000000:Nat)∧bif Cod.q3u (l.getD (p:Int).toNat []) x then ((-9223372036854775808:Int)≤(↑p :
    Int)+(1:Int)∧(p:Int)+(1:Int)≤(9223372036854775807:Int))∧∃ (p':Nat),(p'≤l.length∧((Q0 p' l).all λ(y:List Int)=>Cod.q3u y x)=true)∧l.length-p' <
    l.length-p∧((p:Int)+(1:Int)=(p':Int)∧l=l∧x=x∧code=code∧True)∧True∧True∧True∧True∧True∧True∧True∧True∧True else ((0:Int)≤(0:Int)∧(0 :
    Int)≤(p:Int)∧(p:Int)≤(l.length:Int))∧(([]:List (List Int)).length+(Q6 (Qj (0:Int)) (Q0 (p:Int).toNat l)).length)*(24:Nat)≤(140737488355328:Nat)∧(([] ++
    Q6 (Qj (0:Int)) (Q0 (p:Int).toNat l)).length+[x].length)*(24:Nat)≤(140737488355328:Nat)∧((0:Int)≤(p:Int)∧(p:Int)≤(l.length:Int) ∧
    (l.length:Int)≤(l.length:Int))∧(([]++Q6 (Qj (0:Int)) (Q0 (p:Int).toNat l)++[x]).length+(Q6 (p:Int).toNat (Q0 (↑l.length :
    Int).toNat l)).length)*(24:Nat)≤(140737488355328:Nat)∧[]++Q6 (Qj (0:Int)) (Q0 (p:Int).toNat l)++[x]++Q6 (p:Int).toNat (Q0
    (l.length:Int).toNat l)=Cod.putR l x code else ((0:Int)≤(0:Int)∧(0:Int)≤(p:Int)∧(p:Int)≤(l.length:Int))∧(([]:List (List Int)).length+(Q6 (Qj (0:Int))
    (Q0 (p:Int).toNat l)).length)*(24:Nat)≤(140737488355328:Nat)∧(([]++Q6 (Qj (0:Int)) (Q0 (p:Int).toNat l)).length+[x].length)*(24:Nat) ≤
    (140737488355328:Nat)∧((0:Int)≤(p:Int)∧(p:Int)≤(l.length:Int)∧(l.length:Int)≤(l.length:Int))∧(([]++Q6 (Qj (0:Int)) (Q0 (↑p :
    Int).toNat l)++[x]).length+(Q6 (p:Int).toNat (Q0 (l.length:Int).toNat l)).length)*(24:Nat)≤(140737488355328:Nat)∧[]++Q6 (Qj (0:Int))
    (Q0 (p:Int).toNat l)++[x]++Q6 (p:Int).toNat (Q0 (l.length:Int).toNat l)=Cod.putR l x code
     := by
  obtain ⟨⟨hl,hx⟩,hx1⟩:(l.length≤1000000000∧∀ y∈l,y.length≤1000000)∧x.length≤1000000:=h;simp only [true_and,and_true,eq_self,and_self,QG,Qw,Int.toNat_zero,QP,QE,Qg,Qd,Qe];refine ⟨by omega,bifP (λc1=>?_) λc1=>⟨⟨hl,hx⟩,bifP (λc2=>?_) λc2=>⟨⟨0,⟨Q7 _,rfl⟩,rfl⟩,?_⟩⟩⟩
  · unfold Cod.putR;rw [c1,Qs,if_pos rfl]
  · unfold Cod.putR;rw [c2,Qh,if_pos rfl]
  rintro k ⟨hk,ha⟩;have fin:k=l.length∨Cod.q3u (l.getD k []) x=false→l.take k++[x]++l.drop k=Cod.putR l x code:=λhe=>by
    unfold Cod.putR;rw [c1,c2,Bool.false_or,if_neg (by decide),Cod.tw_len (λy=>Cod.q3u y x) [] l k hk ha he]
  have h1:=List.length_take_le' k l;refine bifP (λhb=>?_) λhb=>?_
  · have hkl:k<l.length:=by have:=of_decide_eq_true hb;omega
    have hm:l.getD k []∈l:=by
      rw [Q4,Q9 hkl];exact Qk hkl
    refine ⟨by omega,Qn (hx _ hm) (by decide),bifP (λc3=>⟨by omega,k+1,⟨by omega,?_⟩,by omega,by omega⟩) λc3=>⟨by omega,?_,?_,by omega,?_,fin (.inr c3)⟩⟩
    · rw [Snd.q0t l [] k hkl,Qy,ha,Qz,QF,QA];exact c3
    all_goals simp only [Qm,Qc,Ql,Qg];omega
  · have hke:k=l.length:=by have:=of_decide_eq_false hb;omega
    refine ⟨by omega,?_,?_,by omega,?_,fin (.inl hke)⟩
    all_goals simp only [Qm,Qc,Ql,Qg];omega
set_option maxRecDepth 100000 in
theorem qMis_vc (l:WlP) (c:CfP) (code:List Int) (h:cQMis.pre (l,c,code)) :
    (∃ (p':Nat×List (List Int)),(p'.1≤code.length∧p'.2.length≤p'.1*(1002:Nat)∧Cod.q4h p'.2 (Cod.upTo (q05 l c) code p'.1))∧([]=p'.2∧(0:Int)=(p'.1:Int)∧c=c
    ∧ code=code∧True∧True)∧((l.1=l.1∧l.2=l.2∧True)∧True)∧True∧True∧True∧True∧True∧True∧True∧True)∧∀ (p:Nat×List (List Int)),p.1≤code.length ∧
    p.2.length≤p.1*(1002:Nat)∧Cod.q4h p.2 (Cod.upTo (q05 l c) code p.1)→bif decide ((p.1:Int)<(code.length:Int)) then ((0:Int)≤(p.1:Int)∧(p.1:Int) <
    (code.length:Int))∧((0:Int)≤code.getD (p.1:Int).toNat (0:Int)∧code.getD (p.1:Int).toNat (0:Int)<(l.2.length:Int))∧(q0j l∧q0n c∧(l.2.getD (code.getD (↑p.1
    : Int).toNat (0:Int)).toNat []).length≤(1000000:Nat))∧(∃ (p':Nat×List (List Int)),(p'.1≤((q05 l c).near (code.getD (p.1:Int).toNat (0:Int))).length∧p'.2.length ≤
    (p.1:Int).toNat*(1002:Nat)+p'.1∧Cod.q4h p'.2 (Cod.q5b (q05 l c) code (p.1:Int).toNat p'.1))∧(p.2=p'.2∧(0:Int)=(p'.1:Int)∧c=c∧code=code∧True ∧
    (p.1:Int)=(p.1:Int)∧(Snd.q10 l.1 l.2 c (l.2.getD (code.getD (p.1:Int).toNat (0:Int)).toNat [])).1=(Snd.q10 l.1 l.2 c (l.2.getD (code.getD (p.1:Int).toNat (0 :
    Int)).toNat [])).1∧(Snd.q10 l.1 l.2 c (l.2.getD (code.getD (p.1:Int).toNat (0:Int)).toNat [])).2=(Snd.q10 l.1 l.2 c (l.2.getD (code.getD (p.1:Int).toNat (0:Int)).toNat
    [])).2∧True)∧((l.1=l.1∧l.2=l.2∧True)∧True)∧True∧True∧True∧True∧True∧True∧True∧True)∧∀ (p_1:Nat×List (List Int)),p_1.1≤((q05 l c).near (code.getD
    (p.1:Int).toNat (0:Int))).length∧p_1.2.length≤(p.1:Int).toNat*(1002:Nat)+p_1.1∧Cod.q4h p_1.2 (Cod.q5b (q05 l c) code (p.1:Int).toNat p_1.1)→bif decide
    ((p_1.1:Int)<(↑(Snd.q10 l.1 l.2 c (l.2.getD (code.getD (p.1:Int).toNat (0:Int)).toNat [])).1.length:Int)) then (([]:List Int).length+code.length)*(8:Nat)≤(140737488355328:Nat) ∧
    ((0:Int)≤(p_1.1:Int)∧(p_1.1:Int)<(↑(Snd.q10 l.1 l.2 c (l.2.getD (code.getD (p.1:Int).toNat (0:Int)).toNat [])).1.length:Int))∧((0:Int)≤(p.1:Int)∧(↑p.1 :
    Int)<(↑([]++code).length:Int))∧bif (p.1:Int).toNat.beq (p.1:Int).toNat then (q2c p_1.2∧(([]++code).set (p.1:Int).toNat ((Snd.q10 l.1 l.2 c (l.2.getD (code.getD (↑p.1
    : Int).toNat (0:Int)).toNat [])).1.getD (p_1.1:Int).toNat (0:Int))).length≤(1000000:Nat))∧((-9223372036854775808:Int)≤(p_1.1:Int)+(1:Int)∧(p_1.1:Int)+(1:Int)
    ≤ (9223372036854775807:Int))∧∃ (p':Nat×List (List Int)),(p'.1≤((q05 l c).near (code.getD (p.1:Int).toNat (0:Int))).length∧p'.2.length≤(p.1:Int).toNat*(1002:Nat)
    + p'.1∧Cod.q4h p'.2 (Cod.q5b (q05 l c) code (p.1:Int).toNat p'.1))∧((q05 l c).near (code.getD (p.1:Int).toNat (0:Int))).length-p'.1<((q05 l c).near (code.getD
    (p.1:Int).toNat (0:Int))).length-p_1.1∧(Cod.putR p_1.2 (([]++code).set (p.1:Int).toNat ((Snd.q10 l.1 l.2 c (l.2.getD (code.getD (p.1:Int).toNat (0:Int)).toNat
    [])).1.getD (p_1.1:Int).toNat (0:Int))) code=p'.2∧(p_1.1:Int)+(1:Int)=(p'.1:Int)∧c=c∧code=code∧True∧(p.1:Int)=(p.1:Int)∧(Snd.q10 l.1 l.2 c
    (l.2.getD (code.getD (p.1:Int).toNat (0:Int)).toNat [])).1=(Snd.q10 l.1 l.2 c (l.2.getD (code.getD (p.1:Int).toNat (0:Int)).toNat [])).1∧(Snd.q10 l.1 l.2 c (l.2.getD
    (code.getD (p.1:Int).toNat (0:Int)).toNat [])).2=(Snd.q10 l.1 l.2 c (l.2.getD (code.getD (p.1:Int).toNat (0:Int)).toNat [])).2∧True)∧((l.1=l.1∧l.2=l.2∧True)∧True)
    ∧ True∧True∧True∧True∧True∧True∧True∧True else False else (((0:Int)≤(0:Int)∧(0:Int)≤(p.1:Int)∧(p.1:Int)≤(code.length:Int))∧((-9223372036854775808 :
    Int)≤(p.1:Int)+(1:Int)∧(p.1:Int)+(1:Int)≤(9223372036854775807:Int))∧((0:Int)≤(p.1:Int)+(1:Int)∧(p.1:Int)+(1:Int)≤(code.length:Int) ∧
    (code.length:Int)≤(code.length:Int))∧(([]:List Int).length+(Q6 (Qj (0:Int)) (Q0 (p.1:Int).toNat code)).length)*(8:Nat)≤(140737488355328:Nat)∧(([] ++
    Q6 (Qj (0:Int)) (Q0 (p.1:Int).toNat code)).length+(Q6 ((p.1:Int)+(1:Int)).toNat (Q0 (code.length:Int).toNat code)).length)*(8:Nat) ≤
    (140737488355328:Nat)∧(q2c p_1.2∧([]++Q6 (Qj (0:Int)) (Q0 (p.1:Int).toNat code)++Q6 ((p.1:Int)+(1:Int)).toNat (Q0 (↑code.length :
    Int).toNat code)).length≤(1000000:Nat))∧∃ (p':List (List Int)),p'=Cod.putR p_1.2 (Q0 (p.1:Int).toNat code++Q6 ((p.1:Int).toNat+(1:Nat)) code) code ∧
    (Cod.putR p_1.2 ([]++Q6 (Qj (0:Int)) (Q0 (p.1:Int).toNat code)++Q6 ((p.1:Int)+(1:Int)).toNat (Q0 (code.length:Int).toNat code)) code =
    p'∧c=c∧code=code∧True∧(p.1:Int)=(p.1:Int)∧True)∧((l.1=l.1∧l.2=l.2∧True)∧True)∧True∧True∧True∧True∧True∧True∧True∧True)∧∀ (p_2:List (List
    Int)),p_2=Cod.putR p_1.2 (Q0 (p.1:Int).toNat code++Q6 ((p.1:Int).toNat+(1:Nat)) code) code→bif decide ((0:Int)<(p.1:Int)) then (([]:List Int).length+code.length)
    * (8:Nat)≤(140737488355328:Nat)∧((-9223372036854775808:Int)≤(p.1:Int)-(1:Int)∧(p.1:Int)-(1:Int)≤(9223372036854775807:Int))∧((0:Int)≤(p.1:Int)∧(↑p.1
    : Int)<(code.length:Int))∧((0:Int)≤(p.1:Int)-(1:Int)∧(p.1:Int)-(1:Int)<(↑([]++code).length:Int))∧bif ((p.1:Int)-(1:Int)).toNat.beq ((p.1:Int) -
    (1:Int)).toNat then ((-9223372036854775808:Int)≤(p.1:Int)-(1:Int)∧(p.1:Int)-(1:Int)≤(9223372036854775807:Int))∧((0:Int)≤(p.1:Int)-(1:Int)∧(↑p.1 :
    Int)-(1:Int)<(code.length:Int))∧((0:Int)≤(p.1:Int)∧(p.1:Int)<(↑(([]++code).set ((p.1:Int)-(1:Int)).toNat (code.getD (p.1:Int).toNat (0:Int))).length :
    Int))∧bif (p.1:Int).toNat.beq (p.1:Int).toNat then (q2c p_2∧((([]++code).set ((p.1:Int)-(1:Int)).toNat (code.getD (p.1:Int).toNat (0:Int))).set (p.1:Int).toNat
    (code.getD ((p.1:Int)-(1:Int)).toNat (0:Int))).length≤(1000000:Nat))∧((-9223372036854775808:Int)≤(p.1:Int)+(1:Int)∧(p.1:Int)+(1:Int)≤(9223372036854775807
    : Int))∧∃ (p':Nat×List (List Int)),(p'.1≤code.length∧p'.2.length≤p'.1*(1002:Nat)∧Cod.q4h p'.2 (Cod.upTo (q05 l c) code p'.1))∧code.length-p'.1<code.length-p.1
    ∧ (Cod.putR p_2 ((([]++code).set ((p.1:Int)-(1:Int)).toNat (code.getD (p.1:Int).toNat (0:Int))).set (p.1:Int).toNat (code.getD ((p.1:Int)-(1:Int)).toNat (0:Int)))
    code=p'.2∧(p.1:Int)+(1:Int)=(p'.1:Int)∧c=c∧code=code∧True∧True)∧((l.1=l.1∧l.2=l.2∧True)∧True)∧True∧True∧True∧True∧True∧True∧True∧True
    else False else False else ((-9223372036854775808:Int)≤(p.1:Int)+(1:Int)∧(p.1:Int)+(1:Int)≤(9223372036854775807:Int))∧∃ (p':Nat×List (List Int)),(p'.1 ≤
    code.length∧p'.2.length≤p'.1*(1002:Nat)∧Cod.q4h p'.2 (Cod.upTo (q05 l c) code p'.1))∧code.length-p'.1<code.length-p.1∧(p_2=p'.2∧(p.1:Int)+(1:Int)=(↑p'.1
    : Int)∧c=c∧code=code∧True∧True)∧((l.1=l.1∧l.2=l.2∧True)∧True)∧True∧True∧True∧True∧True∧True∧True∧True else p.2=Cod.q1y ((q05 l c).miss code)
     := by
  obtain ⟨⟨hW,hC,hws⟩,hlen,hin⟩:(q0j l∧q0n c∧Q5 l.2≤1000)∧code.length≤1000∧Cod.inB l.2.length code=true:=h;have hnear:∀ i,(Snd.q10 l.1 l.2 c (l.2.getD (code.getD i 0).toNat [])).1=(q05 l c).near (code.getD i 0):=λ_=>rfl
  have hlong:∀ (m:List (List Int)) (S:List Int→Prop),Cod.q4h m S→(∀ z,S z→z.length≤code.length)→m.length≤2000000→q2c m:=λm S hm hS hl=>⟨by omega,λz hz=>by
    have:=hS z ((hm.2 z).1 hz);omega⟩
  simp only [true_and,and_true,eq_self,and_self,QG,Qw,Int.toNat_zero,QP,QE,Qd,Qe,hnear,QI,cond_true,QM];refine ⟨⟨(0,[]),⟨Q7 _,Q7 _,Cod.holds_nil _ _⟩,rfl,rfl⟩,?_⟩;rintro ⟨i,o⟩ ⟨hi,hol,ho⟩;dsimp only at hi hol ho ⊢;refine bifP (λhb=>?_) λhb=>?_
  rotate_left
  · have:i=code.length:=by have:=of_decide_eq_false hb;omega
    subst this;exact Cod.holds_miss ho
  have hil:i<code.length:=by have:=of_decide_eq_true hb;omega
  obtain ⟨g0,g1⟩:=Cod.qis hin hil;have hnl:((q05 l c).near (code.getD i 0)).length≤1000:=Qn (q6d _ _) hws;have hwl:(l.2.getD (code.getD i 0).toNat []).length≤1000000:=hW.2.2 _ (by
    rw [Q4,Q9 (show (code.getD i 0).toNat<l.2.length by omega)];exact Qk _)
  refine ⟨by omega,⟨g0,g1⟩,⟨hW,hC,hwl⟩,⟨(0,o),⟨Q7 _,by dsimp only;omega,Cod.qgb ho λz=>(Cod.nearTo_zero ..).symm⟩,rfl,rfl⟩,?_⟩
  rintro ⟨k,m⟩ ⟨hk,hml,hm⟩;dsimp only at hk hml hm ⊢;have hmX:q2c m:=hlong m _ hm (λz hz=>Cod.qmn hi hz) (by
    have:=Qr 1002 hi;have:=Qr 1002 hlen;omega)
  refine bifP (λhb2=>?_) λhb2=>?_
  · have hkl:k<((q05 l c).near (code.getD i 0)).length:=by have:=of_decide_eq_true hb2;omega
    have hp:=Cod.qlf m (code.set i (((q05 l c).near (code.getD i 0)).getD k 0)) code;exact ⟨by omega,by omega,by omega,⟨hmX,by omega⟩,by omega,(k+1,Cod.putR m (code.set i (((q05 l c).near (code.getD i 0)).getD k 0)) code),⟨hkl,by dsimp only;omega,Cod.qgb (Cod.qhi hm _ _) (Cod.nearTo_succ hil hkl)⟩,by dsimp only;omega,rfl,by dsimp only;omega⟩
  have hke:((q05 l c).near (code.getD i 0)).length≤k:=by have:=of_decide_eq_false hb2;omega
  have e2:((i:Int)+1).toNat=i+1:=by omega
  simp only [e2];refine ⟨⟨by omega,by omega,by omega,?_,?_,⟨hmX,?_⟩,_,rfl,rfl⟩,?_⟩
  · rw [Qc];omega
  · rw [Qc,Ql];omega
  · rw [Qm,Qc,Ql];omega
  rintro q rfl;have hp:=Cod.qlf m (code.take i++code.drop (i+1)) code;have hq:=Cod.qhi hm (code.eraseIdx i) code;rw [Qv] at hq;generalize Cod.putR m (code.take i++code.drop (i+1)) code=q at hp hq ⊢;rw [← Qv] at hq;refine bifP (λc1=>?_) λc1=>?_
  · have h0:i≠0:=by have:=of_decide_eq_true c1;omega
    have e1:((i:Int)-1).toNat=i-1:=by omega
    simp only [e1,QI,cond_true];have hqX:q2c q:=hlong q _ hq (λz hz=>hz.elim (λhz=>Cod.qmn hi hz) λhz=>by
      rw [hz.1,List.length_eraseIdx_of_lt hil];omega) (by
      have:=Qr 1002 hi;have:=Qr 1002 hlen;omega)
    have hs:(code.set (i-1) (code.getD i 0)).set i (code.getD (i-1) 0)=Cod.swapAt code i:=by
      unfold Cod.swapAt;rw [List.set_comm _ _ (by omega)]
    rw [hs];have hp2:=Cod.qlf q (Cod.swapAt code i) code;exact ⟨by omega,by omega,by omega,by omega,by omega,by omega,by omega,⟨hqX,by omega⟩,by omega,(i+1,Cod.putR q (Cod.swapAt code i) code),⟨hil,by dsimp only;omega,Cod.qgb (Cod.qhi hq _ _) (Cod.upTo_succ hil h0 hke)⟩,by dsimp only;omega,rfl,by dsimp only;omega⟩
  · have h0:i=0:=by have:=of_decide_eq_false c1;omega
    subst h0;exact ⟨by omega,(0+1,q),⟨hil,by dsimp only;omega,Cod.qgb hq (Cod.upTo_one hil hke)⟩,by dsimp only;omega,rfl,by dsimp only;omega⟩
set_option maxRecDepth 100000 in
theorem qPlaced_vc (g:Cod.Giv) :
    bif g.2.2.1 then True∧Cod.onB g.2.2.2=Cod.q1g g else (g.2.2.2.1==(0:Int)&&(g.2.2.2.2==(0:Int)&&true))=Cod.q1g g
     := by
  unfold Cod.q1g;refine bifP (λc1=>?_) λc1=>?_
  · rw [if_pos c1];exact ⟨trivial,rfl⟩
  · rw [if_neg (by rw [c1];decide),QA]
set_option maxRecDepth 100000 in
theorem qNear_vc (a b:Cod.Giv) :
    bif a.2.2.1 then bif b.2.2.1 then True∧decide (Cod.q5g a.2.2.2 b.2.2.2≤(1000000:Int))=Cod.q0o a b else false=Cod.q0o a b else false=Cod.q0o a b
     := by
  unfold Cod.q0o;refine bifP (λc1=>bifP (λc2=>?_) λc2=>?_) λc1=>?_
  · rw [c1,c2];exact ⟨trivial,rfl⟩
  · rw [c2,Qi,Qa]
  · rw [c1];rfl
set_option maxRecDepth 100000 in
theorem qFits_vc (g:Cod.Giv) (a:List (List Int)) (o:Cod.Giv) (b:List (List Int)) (h:cQFits.pre (g,a,o,b)) :
    g.2.1.length≤(1000000000000000:Nat)∧bif g.2.1==o.2.1 then false=Cod.q7i g a o b else q2c a∧bif a.any λ(y:List Int)=>y==o.2.1 then false=Cod.q7i g a o b else
    q2c b∧bif b.any λ(y:List Int)=>y==g.2.1 then false=Cod.q7i g a o b else (∃ (p':Nat),(p'≤a.length∧((Q0 p' a).all λ(z:List Int)=>!b.any λ(w:List Int)
    => w==z)=true)∧((0:Int)=(p':Int)∧a=a∧b=b∧True∧True∧True)∧((g.1=g.1∧g.2.1=g.2.1∧g.2.2.1=g.2.2.1∧g.2.2.2.1=g.2.2.2.1∧g.2.2.2.2=g.2.2.2.2∧True)
    ∧ (o.1=o.1∧o.2.1=o.2.1∧o.2.2.1=o.2.2.1∧o.2.2.2.1=o.2.2.2.1∧o.2.2.2.2=o.2.2.2.2∧True)∧True)∧True∧True∧True∧True∧True∧True∧True∧True)∧∀ (p:Nat),p ≤
    a.length∧((Q0 p a).all λ(z:List Int)=>!b.any λ(w:List Int)=>w==z)=true→bif decide ((p:Int)<(a.length:Int)) then True∧bif Cod.q0o g o then ((0:Int)
    ≤ (p:Int)∧(p:Int)<(a.length:Int))∧q2c b∧bif b.any λ(y:List Int)=>y==a.getD (p:Int).toNat [] then false=Cod.q7i g a o b else ((-9223372036854775808:Int) ≤
    (p:Int)+(1:Int)∧(p:Int)+(1:Int)≤(9223372036854775807:Int))∧∃ (p':Nat),(p'≤a.length∧((Q0 p' a).all λ(z:List Int)=>!b.any λ(w:List Int)=>w ==
    z)=true)∧a.length-p'<a.length-p∧((p:Int)+(1:Int)=(p':Int)∧a=a∧b=b∧True∧True∧True)∧((g.1=g.1∧g.2.1=g.2.1∧g.2.2.1=g.2.2.1∧g.2.2.2.1 =
    g.2.2.2.1∧g.2.2.2.2=g.2.2.2.2∧True)∧(o.1=o.1∧o.2.1=o.2.1∧o.2.2.1=o.2.2.1∧o.2.2.2.1=o.2.2.2.1∧o.2.2.2.2=o.2.2.2.2∧True)∧True)∧True∧True∧True∧True∧True
    ∧ True∧True∧True else true=Cod.q7i g a o b else true=Cod.q7i g a o b
     := by
  obtain ⟨hg,ha,hb⟩:g.2.1.length≤1000000∧q2c a∧q2c b:=h;have hal:=ha.1;simp only [true_and,and_true,eq_self,and_self];unfold Cod.q7i;refine ⟨by omega,bifP (λc1=>?_) λc1=>⟨ha,bifP (λc2=>?_) λc2=>⟨hb,bifP (λc3=>?_) λc3=>⟨⟨0,⟨Q7 _,rfl⟩,rfl⟩,?_⟩⟩⟩⟩
  · rw [c1];rfl
  · rw [c2,Qs,Qh];rfl
  · rw [c3,Qh,Qh];rfl
  rintro k ⟨hk,hal2⟩;rw [c1,c2,c3];refine bifP (λhb2=>bifP (λc4=>?_) λc4=>?_) λhb2=>?_
  · have hkl:k<a.length:=by have:=of_decide_eq_true hb2;omega
    simp only [Qd];refine ⟨by omega,hb,bifP (λc5=>?_) λc5=>⟨by omega,k+1,⟨by omega,?_⟩,by omega,by omega⟩⟩
    · rw [c4]
      have hm:a.getD k []∈a:=by
        rw [Q4,Q9 hkl];exact Qk hkl
      have:(a.all λz=>!(b.any λw=>w==z))=false:=by
        rw [← Qu,List.all_eq_true];intro hh;have:=hh _ hm;rw [show (b.any λw=>w==a.getD k [])=true from c5] at this
        cases this
      rw [this];rfl
    · rw [Snd.q0t a [] k hkl,Qy,hal2,Qz,QF,show (b.any λw=>w==a.getD k [])=false from c5];rfl
  · rw [c4];rfl
  · have:k=a.length:=by have:=of_decide_eq_false hb2;omega
    subst this;rw [Qe] at hal2;rw [hal2,Qh];rfl
set_option maxRecDepth 100000 in
theorem qAll_vc (l:WlP) (c:CfP) (book:List Cod.Giv) (h:cQAll.pre (l,c,book)) :
    (∃ (p':Nat),p'≤book.length∧(True∧(0:Int)=(p':Int)∧c=c∧book=book∧True∧True)∧((l.1=l.1∧l.2=l.2∧True)∧True)∧(Cod.allM (q05 l c) (Q0 p' book) =
    []∧True)∧True∧True∧True∧True∧True∧True∧True)∧∀ (p:Nat),p≤book.length→bif decide ((p:Int)<(book.length:Int)) then ((0:Int)≤(p:Int)∧(p:Int) <
    (book.length:Int))∧(q41 l c∧qec l (book.getD (p:Int).toNat ([],[],false,(0:Int),(0:Int))).2.1)∧((Cod.allM (q05 l c) (Q0 p book)).length+[Cod.q1y
    ((q05 l c).miss (book.getD (p:Int).toNat ([],[],false,(0:Int),(0:Int))).2.1)].length)*(24:Nat)≤(140737488355328:Nat)∧((-9223372036854775808:Int)≤(p:Int)+(1 :
    Int)∧(p:Int)+(1:Int)≤(9223372036854775807:Int))∧∃ (p':Nat),p'≤book.length∧book.length-p'<book.length-p∧(True∧(p:Int)+(1:Int)=(p':Int)∧c=c ∧
    book=book∧True∧True)∧((l.1=l.1∧l.2=l.2∧True)∧True)∧(Cod.allM (q05 l c) (Q0 p book)++[Cod.q1y ((q05 l c).miss (book.getD (p:Int).toNat ([],[],false,(0
    : Int),(0:Int))).2.1)]=Cod.allM (q05 l c) (Q0 p' book)∧True)∧True∧True∧True∧True∧True∧True∧True else Cod.allM (q05 l c) (Q0 p book)=Cod.allM (q05 l
    c) book
     := by
  obtain ⟨hE,hbl,hb⟩:q41 l c∧book.length≤1000∧∀ g∈book,qec l g.2.1:=h;simp only [true_and,and_true,eq_self,and_self];refine ⟨⟨0,Q7 _,rfl,rfl⟩,λk hk=>bifP (λhb2=>?_) λhb2=>?_⟩
  · have hkl:k<book.length:=by have:=of_decide_eq_true hb2;omega
    simp only [Qd];have hm:book.getD k giv0∈book:=by
      rw [Q4,Q9 hkl];exact Qk hkl
    have hl2:(Cod.allM (q05 l c) (book.take k)).length≤1000:=by
      unfold Cod.allM;rw [Qx,Qc];omega
    exact ⟨by omega,⟨hE,hb _ hm⟩,by rw [Qg];omega,by omega,k+1,by omega,by omega,by omega,(Cod.allM_next _ _ hkl giv0).symm⟩
  · have:k=book.length:=by have:=of_decide_eq_false hb2;omega
    subst this;rw [Qe]
set_option maxRecDepth 100000 in
theorem qProper_vc (l:WlP) (c:CfP) (book:List Cod.Giv) (h:qfa.pre (l,c,book)) :
    q0j l∧bif !Snd.q0c l.1 l.2 then false=(q05 l c).proper book else q0n c∧bif !Snd.q0h c then false=(q05 l c).proper book else bif decide ((20000:Int)<(↑book.length :
    Int)) then false=(q05 l c).proper book else (∃ (p':Nat),(p'≤book.length∧∀ (g:Cod.Giv),g∈Q0 p' book→Cod.okG (q05 l c) g=true)∧((0:Int)=(p':Int)∧c=c ∧
    book=book∧True∧True)∧((l.1=l.1∧l.2=l.2∧True)∧True)∧True∧True∧True∧True∧True∧True∧True∧True)∧∀ (p:Nat),(p≤book.length∧∀ (g:Cod.Giv),g∈Q0
    p book→Cod.okG (q05 l c) g=true)→bif decide ((p:Int)<(book.length:Int)) then ((0:Int)≤(p:Int)∧(p:Int)<(book.length:Int))∧(book.getD (p:Int).toNat ([],
    [],false,(0:Int),(0:Int))).1.length≤(1000000:Nat)∧bif !Lx.q0v (book.getD (p:Int).toNat ([],[],false,(0:Int),(0:Int))).1 then false=(q05 l c).proper book else
    ((0:Int)≤(p:Int)∧(p:Int)<(book.length:Int))∧(q0j l∧(book.getD (p:Int).toNat ([],[],false,(0:Int),(0:Int))).2.1.length≤(1000000:Nat))∧bif !Cod.q0q
    l.1 l.2 (book.getD (p:Int).toNat ([],[],false,(0:Int),(0:Int))).2.1 then false=(q05 l c).proper book else ((0:Int)≤(p:Int)∧(p:Int)<(book.length:Int))∧True ∧
    bif !Cod.q1g (book.getD (p:Int).toNat ([],[],false,(0:Int),(0:Int))) then false=(q05 l c).proper book else ((-9223372036854775808:Int)≤(p:Int)+(1:Int)∧(↑p :
    Int)+(1:Int)≤(9223372036854775807:Int))∧∃ (p':Nat),(p'≤book.length∧∀ (g:Cod.Giv),g∈Q0 p' book→Cod.okG (q05 l c) g=true)∧book.length-p'<book.length -
    p∧((p:Int)+(1:Int)=(p':Int)∧c=c∧book=book∧True∧True)∧((l.1=l.1∧l.2=l.2∧True)∧True)∧True∧True∧True∧True∧True∧True∧True∧True else (q41
    l c∧SmallB l book)∧(∃ (p':Nat),(p'≤book.length∧∀ (i:Nat),i<p'→twoTo (q05 l c) book i i)∧((0:Int)=(p':Int)∧c=c∧book=book∧True∧Cod.allM (q05 l c)
    book=Cod.allM (q05 l c) book∧True)∧((l.1=l.1∧l.2=l.2∧True)∧True)∧True∧True∧True∧True∧True∧True∧True∧True)∧∀ (p:Nat),(p≤book.length∧∀ (i:Nat),i <
    p→twoTo (q05 l c) book i i)→bif decide ((p:Int)<(book.length:Int)) then (∃ (p':Nat),(p'≤(p:Int).toNat∧twoTo (q05 l c) book (p:Int).toNat p')∧((0:Int)=(↑p'
    : Int)∧c=c∧book=book∧True∧Cod.allM (q05 l c) book=Cod.allM (q05 l c) book∧(p:Int)=(p:Int)∧True)∧((l.1=l.1∧l.2=l.2∧True)∧True)∧True∧True∧True ∧
    True∧True∧True∧True∧True)∧∀ (p_1:Nat),p_1≤(p:Int).toNat∧twoTo (q05 l c) book (p:Int).toNat p_1→bif decide ((p_1:Int)<(p:Int)) then ((0:Int)≤(↑p_1 :
    Int)∧(p_1:Int)<(book.length:Int))∧((0:Int)≤(p:Int)∧(p:Int)<(book.length:Int))∧bif (book.getD (p_1:Int).toNat ([],[],false,(0:Int),(0:Int))).1 ==
    (book.getD (p:Int).toNat ([],[],false,(0:Int),(0:Int))).1 then false=(q05 l c).proper book else ((0:Int)≤(p_1:Int)∧(p_1:Int)<(book.length:Int))∧((0:Int) ≤
    (p_1:Int)∧(p_1:Int)<(↑(Cod.allM (q05 l c) book).length:Int))∧((0:Int)≤(p:Int)∧(p:Int)<(book.length:Int))∧((0:Int)≤(p:Int)∧(p:Int)<(↑(Cod.allM
    (q05 l c) book).length:Int))∧((book.getD (p_1:Int).toNat ([],[],false,(0:Int),(0:Int))).2.1.length≤(1000000:Nat)∧q2c ((Cod.allM (q05 l c) book).getD (↑p_1 :
    Int).toNat [])∧q2c ((Cod.allM (q05 l c) book).getD (p:Int).toNat []))∧bif !Cod.q7i (book.getD (p_1:Int).toNat ([],[],false,(0:Int),(0:Int))) ((Cod.allM (q05 l c)
    book).getD (p_1:Int).toNat []) (book.getD (p:Int).toNat ([],[],false,(0:Int),(0:Int))) ((Cod.allM (q05 l c) book).getD (p:Int).toNat []) then false=(q05 l c).proper
    book else ((-9223372036854775808:Int)≤(p_1:Int)+(1:Int)∧(p_1:Int)+(1:Int)≤(9223372036854775807:Int))∧∃ (p':Nat),(p'≤(p:Int).toNat∧twoTo (q05 l c) book
    (p:Int).toNat p')∧(p:Int).toNat-p'<(p:Int).toNat-p_1∧((p_1:Int)+(1:Int)=(p':Int)∧c=c∧book=book∧True∧Cod.allM (q05 l c) book=Cod.allM (q05 l
    c) book∧(p:Int)=(p:Int)∧True)∧((l.1=l.1∧l.2=l.2∧True)∧True)∧True∧True∧True∧True∧True∧True∧True∧True else ((-9223372036854775808:Int)≤(p:Int) +
    (1:Int)∧(p:Int)+(1:Int)≤(9223372036854775807:Int))∧∃ (p':Nat),(p'≤book.length∧∀ (i:Nat),i<p'→twoTo (q05 l c) book i i)∧book.length-p'<book.length-p ∧
    ((p:Int)+(1:Int)=(p':Int)∧c=c∧book=book∧True∧Cod.allM (q05 l c) book=Cod.allM (q05 l c) book∧True)∧((l.1=l.1∧l.2=l.2∧True)∧True)∧True∧True ∧
    True∧True∧True∧True∧True∧True else true=(q05 l c).proper book
     := by
  obtain ⟨⟨hW,hC,hws⟩,hbl,hb⟩:(q0j l∧q0n c∧Q5 l.2≤1000)∧book.length≤1000∧∀ g∈book,g.1.length≤1000000∧g.2.1.length≤1000:=h;simp only [true_and,and_true,eq_self,and_self];have hmem:∀ k,k<book.length→book.getD k giv0∈book:=λk hkl=>by
    rw [Q4,Q9 hkl];exact Qk hkl
  have hbad:∀ k,k<book.length→Cod.okG (q05 l c) (book.getD k giv0)=false→false=(q05 l c).proper book:=λk hk hf=>Cod.qkq λht=>by
    have:=(Cod.qbp.1 ht).2.2.1 _ (hmem k hk)
    rw [hf] at this;cases this
  refine ⟨hW,bifP (λc1=>?_) λc1=>⟨hC,bifP (λc2=>?_) λc2=>bifP (λc3=>?_) λc3=>?_⟩⟩
  · unfold Cod.Ear.proper Cod.Ear.ok;rw [show Snd.q0c (q05 l c).lang (q05 l c).ws=false from cast (Qf _) c1];rfl
  · unfold Cod.Ear.proper Cod.Ear.ok;rw [show Snd.q0h (q05 l c).c=false from cast (Qf _) c2,Qa];rfl
  · have:=of_decide_eq_true c3;omega
  have hok:(q05 l c).ok=true:=by unfold Cod.Ear.ok;rw [show Snd.q0c (q05 l c).lang (q05 l c).ws=true from cast (Qb _) c1,show Snd.q0h (q05 l c).c=true from cast (Qb _) c2];rfl
  refine ⟨⟨0,⟨Q7 _,λg hg=>by cases hg⟩,rfl⟩,?_⟩
  rintro k ⟨hk,hall⟩;refine bifP (λhb2=>?_) λhb2=>?_
  · have hkl:k<book.length:=by have:=of_decide_eq_true hb2;omega
    simp only [Qd];have hg:=hb _ (hmem k hkl);refine ⟨by omega,hg.1,bifP (λc4=>hbad k hkl ?_) λc4=>⟨by omega,⟨hW,Qn hg.2 (by decide)⟩,bifP (λc5=>hbad k hkl ?_) λc5=>⟨by omega,bifP (λc6=>hbad k hkl ?_) λc6=>⟨by omega,k+1,⟨by omega,?_⟩,by omega,by omega⟩⟩⟩⟩
    · unfold Cod.okG;rw [show Lx.q0v (book.getD k giv0).1=false from cast (Qf _) c4];rfl
    · unfold Cod.okG;rw [show Cod.q0q (q05 l c).lang (q05 l c).ws (book.getD k giv0).2.1=false from cast (Qf _) c5,Qa,Qa]
    · unfold Cod.okG;rw [show Cod.q1g (book.getD k giv0)=false from cast (Qf _) c6,Qi,Qa]
    · intro g hg2
      rw [Snd.q0t book giv0 k hkl] at hg2;rcases List.mem_append.1 hg2 with h' | h'
      · exact hall g h'
      · rw [Qp.1 h']
        unfold Cod.okG;rw [show Lx.q0v (book.getD k giv0).1=true from cast (Qb _) c4,show Cod.q0q (q05 l c).lang (q05 l c).ws (book.getD k giv0).2.1=true from cast (Qb _) c5,show Cod.q1g (book.getD k giv0)=true from cast (Qb _) c6];rfl
  have:k=book.length:=by have:=of_decide_eq_false hb2;omega
  subst this;rw [Qe] at hall;have hcode:∀ g∈book,Cod.inB l.2.length g.2.1=true∧g.2.1.length≤5:=λg hg=>by
    have:=hall g hg
    unfold Cod.okG at this;simp only [Qo] at this;exact Cod.q4l this.2.2
  refine ⟨⟨⟨hW,hC,hws⟩,hbl,λg hg=>⟨(hb g hg).2,(hcode g hg).1⟩⟩,⟨0,⟨Q7 _,λi hi=>absurd hi (QH _)⟩,rfl⟩,?_⟩
  rintro k ⟨hk,htwo⟩;refine bifP (λhb3=>?_) λhb3=>?_
  rotate_left
  · have:k=book.length:=by have:=of_decide_eq_false hb3;omega
    subst this
    symm
    refine Cod.qbp.2 ⟨hok,by omega,hall,?_⟩
    rw [List.pairwise_iff_getElem];intro i j hi hj hij;have:=htwo j hj i hij
    rwa [Q4,Q9 hi,Q4,Q9 hj] at this
  have hkl:k<book.length:=by have:=of_decide_eq_true hb3;omega
  simp only [Qd];refine ⟨⟨0,⟨Q7 _,λi hi=>absurd hi (QH _)⟩,rfl⟩,?_⟩
  rintro j ⟨hj,hjt⟩;refine bifP (λhb4=>?_) λhb4=>?_
  rotate_left
  · have:j=k:=by have:=of_decide_eq_false hb4;omega
    subst this;refine ⟨by omega,j+1,⟨by omega,λi hi=>?_⟩,by omega,by omega⟩
    rcases QJ i j with h' | h'
    · exact htwo i h'
    · obtain rfl:i=j:=by omega
      exact hjt
  have hjk:j<k:=by have:=of_decide_eq_true hb4;omega
  have hjl:j<book.length:=by omega
  try simp only [Qd]
  have hbad2:¬ (q05 l c).two (book.getD j giv0) (book.getD k giv0)→false=(q05 l c).proper book:=λhn=>Cod.qkq λht=>hn (Cod.proper_two ht giv0 hjl hkl (by omega))
  have hal:(Cod.allM (q05 l c) book).length=book.length:=by unfold Cod.allM;rw [Qx]
  have hc1:=hcode _ (hmem j hjl);have hc2:=hcode _ (hmem k hkl);have hfit:=Cod.qls (q05 l c) (book.getD j giv0) (book.getD k giv0);rw [Cod.ql4 _ _ hjl giv0,Cod.ql4 _ _ hkl giv0];have hL1:q2c (Cod.q1y ((q05 l c).miss (book.getD j giv0).2.1)):=qdk (by omega) hW.2.1
  have hL2:q2c (Cod.q1y ((q05 l c).miss (book.getD k giv0).2.1)):=qdk (by omega) hW.2.1
  rw [hfit];refine ⟨by omega,by omega,bifP (λc4=>hbad2 λht=>?_) λc4=>⟨by omega,by omega,by omega,by omega,⟨Qn hc1.2 (by decide),hL1,hL2⟩,bifP (λc5=>hbad2 λht=>?_) λc5=>⟨by omega,j+1,⟨by omega,λi hi=>?_⟩,by omega,by omega⟩⟩⟩
  · exact ht.1 (eq_of_beq c4)
  · rw [ht.2] at c5;cases c5
  · rcases QJ i j with h' | h'
    · exact hjt i h'
    · obtain rfl:i=j:=by omega
      exact ⟨λe=>(by rw [show ((book.getD i giv0).1==(book.getD k giv0).1)=true from beq_iff_eq.2 e] at c4;cases c4),cast (Qb _) c5⟩
set_option maxRecDepth 100000 in
theorem rlet_vc (s:List UInt8) (lo hi:Int) (h:cRLet.pre (s,lo,hi)) :
    (∃ (p':Nat),(p'≤s.length∧(Q0 p' s).all Snd.letB=true)∧((0:Int)=(p':Int)∧s=s∧lo=lo∧hi=hi∧True)∧True∧True∧True∧True∧True∧True∧True∧True ∧
    True)∧∀ (p:Nat),p≤s.length∧(Q0 p s).all Snd.letB=true→bif decide ((p:Int)<(s.length:Int)) then bif decide ((p:Int)≤hi) then ((0:Int)≤(p:Int)∧(↑p :
    Int)<(s.length:Int))∧bif decide ((↑(s.getD (p:Int).toNat (0:UInt8)).toNat:Int)<(97:Int)) then false=Snd.q0b s lo hi else ((0:Int)≤(p:Int)∧(p:Int) <
    (s.length:Int))∧bif decide ((122:Int)<(↑(s.getD (p:Int).toNat (0:UInt8)).toNat:Int)) then false=Snd.q0b s lo hi else ((-9223372036854775808:Int)≤(p:Int)+(1 :
    Int)∧(p:Int)+(1:Int)≤(9223372036854775807:Int))∧∃ (p':Nat),(p'≤s.length∧(Q0 p' s).all Snd.letB=true)∧s.length-p'<s.length-p∧((p:Int)+(1:Int) =
    (p':Int)∧s=s∧lo=lo∧hi=hi∧True)∧True∧True∧True∧True∧True∧True∧True∧True∧True else bif decide (lo≤(s.length:Int)) then decide ((s.length:Int)≤hi) =
    Snd.q0b s lo hi else false=Snd.q0b s lo hi else bif decide (lo≤(s.length:Int)) then decide ((s.length:Int)≤hi)=Snd.q0b s lo hi else false=Snd.q0b s lo hi
     := by
  have h:s.length≤1000000:=h;simp only [true_and,and_true];refine ⟨⟨0,⟨Q7 _,rfl⟩,rfl⟩,?_⟩;rintro p ⟨hp,ha⟩;have hti:((p:Int).toNat)=p:=rfl;simp only [hti];have fin:(s.length≤p∨hi<(p:Int))→bif decide (lo≤(s.length:Int)) then decide ((s.length:Int)≤hi)=Snd.q0b s lo hi else false=Snd.q0b s lo hi:=λhle=>by
    have hv:(decide (lo≤(s.length:Int))&&decide ((s.length:Int)≤hi))=Snd.q0b s lo hi:=by
      unfold Snd.q0b;rcases hle with hle | hle
      · rw [Snd.q7f s _ p hle] at ha
        rw [ha,QC]
      · rw [decide_eq_false (p:=(s.length:Int)≤hi) (by omega),Qa,Qa]
    refine bifP (λhb=>?_) λhb=>?_
    · rw [← hv,hb,QC]
    · rw [← hv,hb,Qi]
  refine bifP (λhb=>?_) λhb=>fin (.inl (by have:=of_decide_eq_false hb;omega))
  have hlt:p<s.length:=by have:=of_decide_eq_true hb;omega
  refine bifP (λhb=>?_) λhb=>fin (.inr (by have:=of_decide_eq_false hb;omega))
  have no:Snd.letB (s.getD p 0)=false→false=Snd.q0b s lo hi:=λhf=>by
    unfold Snd.q0b;rw [Snd.q6h s 0 _ p hlt hf,Qi]
  refine ⟨⟨by omega,by omega⟩,bifP (λhb=>no ?_) λh1=>⟨⟨by omega,by omega⟩,bifP (λhb=>no ?_) λh2=>⟨⟨by omega,by omega⟩,p+1,⟨by omega,?_⟩,by omega,by omega⟩⟩⟩
  · rw [Snd.qlb,hb];rfl
  · rw [Snd.qlb,hb,Bool.and_comm];rfl
  · rw [Snd.q4t s 0 _ p hlt,ha,Snd.qlb,h1,h2];rfl
set_option maxRecDepth 100000 in
theorem rvalid_vc (lang:List UInt8) (ws:List (List UInt8)) (h:qe9.pre (lang,ws)) :
    lang.length≤(1000000:Nat)∧bif !Lx.q0v lang then false=Snd.q0c lang ws else bif decide ((ws.length:Int)<(1:Int)) then false=Snd.q0c lang ws else bif decide ((4096 :
    Int)<(ws.length:Int)) then false=Snd.q0c lang ws else (∃ (p':Nat),(p'≤ws.length∧((Q0 p' ws).all λ(s:List UInt8)=>Snd.q0b s (3:Int) (8:Int))=true ∧
    Snd.rising (Q0 p' ws)=true)∧((0:Int)=(p':Int)∧True∧True)∧((lang=lang∧ws=ws∧True)∧True)∧True∧True∧True∧True∧True∧True∧True∧True)∧∀ (p :
    Nat),p≤ws.length∧((Q0 p ws).all λ(s:List UInt8)=>Snd.q0b s (3:Int) (8:Int))=true∧Snd.rising (Q0 p ws)=true→bif decide ((p:Int)<(↑ws.length :
    Int)) then ((0:Int)≤(p:Int)∧(p:Int)<(ws.length:Int))∧(ws.getD (p:Int).toNat []).length≤(1000000:Nat)∧bif !Snd.q0b (ws.getD (p:Int).toNat []) (3:Int) (8
    : Int) then false=Snd.q0c lang ws else bif decide ((0:Int)<(p:Int)) then ((-9223372036854775808:Int)≤(p:Int)-(1:Int)∧(p:Int)-(1:Int)≤(9223372036854775807 :
    Int))∧((0:Int)≤(p:Int)-(1:Int)∧(p:Int)-(1:Int)<(ws.length:Int))∧((0:Int)≤(p:Int)∧(p:Int)<(ws.length:Int))∧bif !Op.bytesLess (ws.getD ((↑p :
    Int)-(1:Int)).toNat []) (ws.getD (p:Int).toNat []) then false=Snd.q0c lang ws else ((-9223372036854775808:Int)≤(p:Int)+(1:Int)∧(p:Int)+(1:Int) ≤
    (9223372036854775807:Int))∧∃ (p':Nat),(p'≤ws.length∧((Q0 p' ws).all λ(s:List UInt8)=>Snd.q0b s (3:Int) (8:Int))=true∧Snd.rising (Q0 p' ws) =
    true)∧ws.length-p'<ws.length-p∧((p:Int)+(1:Int)=(p':Int)∧True∧True)∧((lang=lang∧ws=ws∧True)∧True)∧True∧True∧True∧True∧True∧True∧True ∧
    True else ((-9223372036854775808:Int)≤(p:Int)+(1:Int)∧(p:Int)+(1:Int)≤(9223372036854775807:Int))∧∃ (p':Nat),(p'≤ws.length∧((Q0 p' ws).all λ(s :
    List UInt8)=>Snd.q0b s (3:Int) (8:Int))=true∧Snd.rising (Q0 p' ws)=true)∧ws.length-p'<ws.length-p∧((p:Int)+(1:Int)=(p':Int)∧True∧True) ∧
    ((lang=lang∧ws=ws∧True)∧True)∧True∧True∧True∧True∧True∧True∧True∧True else true=Snd.q0c lang ws
     := by
  obtain ⟨h1000,hn,hws⟩:=h;have h1000:lang.length≤1000:=h1000;have hn:ws.length≤1000000:=hn;simp only [true_and,and_true];have vno:(Lx.q0v lang=true→1≤ws.length→ws.length≤4096→(ws.all λs=>Snd.q0b s 3 8)=true→Snd.rising ws=true→False)→false=Snd.q0c lang ws:=λh=>by
    symm
    unfold Snd.q0c;rw [← Qu];intro hh;simp only [Qo,decide_eq_true_eq] at hh;exact h hh.1 hh.2.1 hh.2.2.1 hh.2.2.2.1 hh.2.2.2.2
  refine ⟨by omega,bifP (λhb=>vno λh1=>by rw [h1] at hb;cases hb) λh1=>bifP (λhb=>vno λ_ h2=>by have:=of_decide_eq_true hb;omega) λh2=>bifP (λhb=>vno λ_ _ h3=>by have:=of_decide_eq_true hb;omega) λh3=>?_⟩
  have hname:Lx.q0v lang=true:=by simpa using h1
  refine ⟨⟨0,⟨Q7 _,rfl,rfl⟩,rfl⟩,?_⟩;rintro p ⟨hp,ha,hr⟩;have hti:((p:Int).toNat)=p:=rfl;simp only [hti];refine bifP (λhb=>?_) λhb=>?_
  · have hlt:p<ws.length:=by have:=of_decide_eq_true hb;omega
    refine ⟨⟨by omega,by omega⟩,hws _ (Snd.q1n ws [] p hlt),bifP (λhb=>vno λ_ _ _ h3 _=>?_) λh1=>?_⟩
    · rw [Snd.q6h ws [] _ p hlt (by simpa using hb)] at h3;cases h3
    have h1:Snd.q0b (ws.getD p []) 3 8=true:=by simpa using h1
    have hall:(ws.take (p+1)).all (λs=>Snd.q0b s 3 8)=true:=by rw [Snd.q4t ws [] _ p hlt,ha,h1];rfl
    refine bifP (λhb=>?_) λhb=>?_
    · have h0:0<p:=by have:=of_decide_eq_true hb;omega
      have hpm:((p:Int)-1).toNat=p-1:=by omega
      rw [hpm];refine ⟨⟨by omega,by omega⟩,⟨by omega,by omega⟩,⟨by omega,by omega⟩,bifP (λhb=>vno λ_ _ _ _ h4=>?_) λh2=>⟨⟨by omega,by omega⟩,p+1,⟨by omega,hall,?_⟩,by omega,by omega⟩⟩
      · rw [Snd.rising_no ws p hlt h0 (by simpa using hb)] at h4;cases h4
      · rw [Snd.q5k ws p hlt,hr,show Op.bytesLess (ws.getD (p-1) []) (ws.getD p [])=true by simpa using h2];simp
    · have h0:p=0:=by have:=of_decide_eq_false hb;omega
      refine ⟨⟨by omega,by omega⟩,p+1,⟨by omega,hall,?_⟩,by omega,by omega⟩
      rw [Snd.q5k ws p hlt,hr,h0];rfl
  · have hle:ws.length≤p:=by have:=of_decide_eq_false hb;omega
    rw [Snd.q7f ws _ p hle] at ha;rw [Qq hle] at hr;unfold Snd.q0c;rw [hname,ha,hr,decide_eq_true (p:=1≤ws.length) (by have:=of_decide_eq_false h2;omega),decide_eq_true (p:=ws.length≤4096) (by have:=of_decide_eq_false h3;omega)]
    rfl
abbrev q4s (c:CfP) (p:Nat):Prop :=
 (0≤(p:Int)∧(p:Int)<(↑(Q5 c):Int))
abbrev qa4 (c:CfP) (p:Nat) (p':Nat):Prop :=
 (p'≤(p:Int).toNat∧(Q0 p' c).any (Snd.same (Q8 c (p:Int).toNat ([],[])))=false)
abbrev q8c (c:CfP) (p_1:Nat):Prop :=
 (0≤(p_1:Int)∧(p_1:Int)<(↑(Q5 c):Int))
set_option maxRecDepth 100000 in
theorem rproper_vc (c:CfP) (h:qcr.pre c) :
  bif decide ((200:Int)<(↑(Q5 c):Int)) then false=Snd.q0h c else (∃ (p':Nat),(p'≤Q5 c∧(Q0 p' c).all Snd.okC=true∧Snd.fresh (Q0 p' c)=true)∧((0:Int)=(p':Int)∧c=c∧True)∧zT9)∧∀ (p:Nat),p≤Q5 c∧(Q0 p c).all Snd.okC=true∧Snd.fresh (Q0 p c)=true→bif decide ((p:Int)<(↑(Q5 c):Int)) then (q4s c p)∧(Q8 c (p:Int).toNat ([],[])).1.length≤(1000000:Nat)∧bif !Snd.q0b (Q8 c (p:Int).toNat ([],[])).1 (1:Int) (3:Int) then false=Snd.q0h c else (q4s c p)∧(Q8 c (p:Int).toNat ([],[])).2.length≤(1000000:Nat)∧bif !Snd.q0b (Q8 c (p:Int).toNat ([],[])).2 (1:Int) (3:Int) then false=Snd.q0h c else (q4s c p)∧(q4s c p)∧bif (Q8 c (p:Int).toNat ([],[])).1==(Q8 c (p:Int).toNat ([],[])).2 then false=Snd.q0h c else (∃ (p':Nat),(qa4 c p p')∧((0:Int)=(p':Int)∧c=c∧zE (p:Int)∧True)∧zT9)∧∀ (p_1:Nat),p_1≤(p:Int).toNat∧(Q0 p_1 c).any (Snd.same (Q8 c (p:Int).toNat ([],[])))=false→bif decide ((p_1:Int)<(p:Int)) then (q8c c p_1)∧(q4s c p)∧bif (Q8 c (p_1:Int).toNat ([],[])).1==(Q8 c (p:Int).toNat ([],[])).1 then (q8c c p_1)∧(q4s c p)∧bif (Q8 c (p_1:Int).toNat ([],[])).2==(Q8 c (p:Int).toNat ([],[])).2 then false=Snd.q0h c else (q8c c p_1)∧(q4s c p)∧bif (Q8 c (p_1:Int).toNat ([],[])).1==(Q8 c (p:Int).toNat ([],[])).2 then (q8c c p_1)∧(q4s c p)∧bif (Q8 c (p_1:Int).toNat ([],[])).2==(Q8 c (p:Int).toNat ([],[])).1 then false=Snd.q0h c else (zFit ((p_1:Int)+1))∧∃ (p':Nat),(qa4 c p p')∧(p:Int).toNat-p'<(p:Int).toNat-p_1∧((p_1:Int)+1=(p':Int)∧c=c∧zE (p:Int)∧True)∧zT9 else (zFit ((p_1:Int)+1))∧∃ (p':Nat),(qa4 c p p')∧(p:Int).toNat-p'<(p:Int).toNat-p_1∧((p_1:Int)+1=(p':Int)∧c=c∧zE (p:Int)∧True)∧zT9 else (q8c c p_1)∧(q4s c p)∧bif (Q8 c (p_1:Int).toNat ([],[])).1==(Q8 c (p:Int).toNat ([],[])).2 then (q8c c p_1)∧(q4s c p)∧bif (Q8 c (p_1:Int).toNat ([],[])).2==(Q8 c (p:Int).toNat ([],[])).1 then false=Snd.q0h c else (zFit ((p_1:Int)+1))∧∃ (p':Nat),(qa4 c p p')∧(p:Int).toNat-p'<(p:Int).toNat-p_1∧((p_1:Int)+1=(p':Int)∧c=c∧zE (p:Int)∧True)∧zT9 else (zFit ((p_1:Int)+1))∧∃ (p':Nat),(qa4 c p p')∧(p:Int).toNat-p'<(p:Int).toNat-p_1∧((p_1:Int)+1=(p':Int)∧c=c∧zE (p:Int)∧True)∧zT9 else (zFit ((p:Int)+1))∧∃ (p':Nat),(p'≤Q5 c∧(Q0 p' c).all Snd.okC=true∧Snd.fresh (Q0 p' c)=true)∧Q5 c-p'<Q5 c-p∧((p:Int)+1=(p':Int)∧c=c∧True)∧zT9 else true=Snd.q0h c:=by
 delta q4s qa4 q8c zFit zE zT9
 obtain ⟨hn,hq⟩:=h;have hn:c.length≤1000000:=hn;simp only [true_and,and_true];have vno:(c.length≤200→c.all Snd.okC=true→Snd.fresh c=true→False)→false=Snd.q0h c:=λh=>by
  symm
  unfold Snd.q0h;rw [← Qu];intro hh;simp only [Qo,decide_eq_true_eq] at hh;exact h hh.1 hh.2.1 hh.2.2
 refine bifP (λhb=>vno λh1=>by have:=of_decide_eq_true hb;omega) λh200=>⟨⟨0,⟨Q7 _,rfl,rfl⟩,rfl⟩,?_⟩
 rintro p ⟨hp,ha,hf⟩;have hti:((p:Int).toNat)=p:=rfl;simp only [hti];refine bifP (λhb=>?_) λhb=>?_
 ·have hlt:p<c.length:=by have:=of_decide_eq_true hb;omega
  have hqp:=hq _ (Snd.q1n c ([],[]) p hlt);have bad:Snd.okC (c.getD p ([],[]))=false→false=Snd.q0h c:=λhf=>vno λ_ h2 _=>by
   rw [Snd.q6h c ([],[]) _ p hlt hf] at h2;cases h2
  have dup:(c.take p).any (Snd.same (c.getD p ([],[])))=true→false=Snd.q0h c:=λhf=>vno λ_ _ h3=>by
   rw [Snd.fresh_no c ([],[]) p hlt hf] at h3;cases h3
  have hall:=Snd.q4t c ([],[]) Snd.okC p hlt;have hfr:=Snd.qf0 c ([],[]) p hlt;generalize hx:c.getD p ([],[])=x at *
  refine ⟨⟨by omega,by omega⟩,hqp.1,bifP (λhb=>bad ?_) λh1=>⟨⟨by omega,by omega⟩,hqp.2,bifP (λhb=>bad ?_) λh2=>⟨⟨by omega,by omega⟩,⟨by omega,by omega⟩,bifP (λhb=>bad ?_) λh3=>?_⟩⟩⟩
  ·unfold Snd.okC;rw [show Snd.q0b x.1 1 3=false by simpa using hb];rfl
  ·unfold Snd.okC;rw [show Snd.q0b x.2 1 3=false by simpa using hb,Qi,Qa]
  ·unfold Snd.okC;rw [show (x.1==x.2)=true from hb];simp
  have hok:Snd.okC x=true:=by
   unfold Snd.okC;rw [show Snd.q0b x.1 1 3=true by simpa using h1,show Snd.q0b x.2 1 3=true by simpa using h2,show (x.1==x.2)=false from h3];rfl
  refine ⟨⟨0,⟨Q7 _,rfl⟩,rfl⟩,?_⟩;rintro k ⟨hk,hno⟩;have htk:((k:Int).toNat)=k:=rfl;simp only [htk];refine bifP (λhb=>?_) λhb=>?_
  ·have hkp:k<p:=by have:=of_decide_eq_true hb;omega
   have hkl:k<(c.take p).length:=by rw [Qc];omega
   have hgk:(c.take p).getD k ([],[])=c.getD k ([],[]):=by
    rw [Q4,Q4,List.getElem?_take,if_pos hkp]
   have hst:=Snd.qco c ([],[]) (Snd.same x) k (by omega)
   have hyes:Snd.same x (c.getD k ([],[]))=true→(c.take p).any (Snd.same x)=true:=λh=>Snd.qix (c.take p) ([],[]) _ k hkl (by rw [hgk];exact h)
   generalize c.getD k ([],[])=y at *
   have hsm:Snd.same x y=((y.1==x.1&&y.2==x.2)||(y.1==x.2&&y.2==x.1)):=by rw [Snd.same_symm,Snd.same_val]
   rw [hno,Bool.false_or] at hst;have nxt:Snd.same x y=false→(-9223372036854775808≤(k:Int)+1∧(k:Int)+1≤9223372036854775807)∧∃ p',(p'≤p∧(c.take p').any (Snd.same x)=false)∧p-p'<p-k∧(k:Int)+1=(p':Int):=λh=>⟨⟨by omega,by omega⟩,k+1,⟨by omega,by rw [hst];exact h⟩,by omega,by omega⟩
   refine ⟨⟨by omega,by omega⟩,⟨by omega,by omega⟩,bifP (λe1=>⟨⟨by omega,by omega⟩,⟨by omega,by omega⟩,bifP (λe2=>dup (hyes ?_)) λe2=>⟨⟨by omega,by omega⟩,⟨by omega,by omega⟩,bifP (λe3=>⟨⟨by omega,by omega⟩,⟨by omega,by omega⟩,bifP (λe4=>dup (hyes ?_)) λe4=>nxt ?_⟩) λe3=>nxt ?_⟩⟩) λe1=>⟨⟨by omega,by omega⟩,⟨by omega,by omega⟩,bifP (λe3=>⟨⟨by omega,by omega⟩,⟨by omega,by omega⟩,bifP (λe4=>dup (hyes ?_)) λe4=>nxt ?_⟩) λe3=>nxt ?_⟩⟩
   ·rw [hsm,e1,e2];rfl
   ·rw [hsm,e3,e4];simp
   ·rw [hsm,e2,e4];simp
   ·rw [hsm,e2,e3];simp
   ·rw [hsm,e3,e4];simp
   ·rw [hsm,e1,e4];simp
   ·rw [hsm,e1,e3];simp
  ·have hkp:k=p:=by have:=of_decide_eq_false hb;omega
   subst hkp;refine ⟨⟨by omega,by omega⟩,k+1,⟨by omega,by rw [hall,ha,hok];rfl,by rw [hfr,hf,hno];rfl⟩,by omega,by omega⟩
 ·have hle:c.length≤p:=by have:=of_decide_eq_false hb;omega
  rw [Snd.q7f c _ p hle] at ha;rw [Qq hle] at hf;unfold Snd.q0h;rw [ha,hf,decide_eq_true (p:=c.length≤200) (by have:=of_decide_eq_false h200;omega)]
  rfl
set_option maxRecDepth 100000 in
theorem rrep_vc (x y a b:List UInt8) (h:cRRep.pre (x,y,a,b)) :
    (∃ (p':Nat),(p'≤x.length+(1:Nat)∧∀ (j:Nat),j<p'→Snd.q7n x y a b j=false)∧((0:Int)=(p':Int)∧x=x∧y=y∧a=a∧b=b∧True)∧True∧True∧True∧True
    ∧ True∧True∧True∧True∧True)∧∀ (p:Nat),(p≤x.length+(1:Nat)∧∀ (j:Nat),j<p→Snd.q7n x y a b j=false)→((-9223372036854775808:Int)≤(p:Int)+(↑a.length :
    Int)∧(p:Int)+(a.length:Int)≤(9223372036854775807:Int))∧bif decide ((p:Int)+(a.length:Int)≤(x.length:Int)) then ((-9223372036854775808:Int)≤(p:Int) +
    (a.length:Int)∧(p:Int)+(a.length:Int)≤(9223372036854775807:Int))∧((0:Int)≤(p:Int)∧(p:Int)≤(p:Int)+(a.length:Int)∧(p:Int)+(a.length:Int) ≤
    (x.length:Int))∧bif Q6 (p:Int).toNat (Q0 ((p:Int)+(a.length:Int)).toNat x)==a then ((0:Int)≤(0:Int)∧(0:Int)≤(p:Int)∧(p:Int)≤(↑x.length :
    Int))∧(Q6 (Qj (0:Int)) (Q0 (p:Int).toNat x)).length+b.length≤(9223372036854775807:Nat)∧((-9223372036854775808:Int)≤(p:Int)+(a.length:Int) ∧
    (p:Int)+(a.length:Int)≤(9223372036854775807:Int))∧((0:Int)≤(p:Int)+(a.length:Int)∧(p:Int)+(a.length:Int)≤(x.length:Int)∧(x.length:Int) ≤
    (x.length:Int))∧(Q6 (Qj (0:Int)) (Q0 (p:Int).toNat x)++b).length+(Q6 ((p:Int)+(a.length:Int)).toNat (Q0 (x.length:Int).toNat
    x)).length≤(9223372036854775807:Nat)∧bif Q6 (Qj (0:Int)) (Q0 (p:Int).toNat x)++b++Q6 ((p:Int)+(a.length:Int)).toNat (Q0 (↑x.length :
    Int).toNat x)==y then true=Snd.repB x y a b else ((-9223372036854775808:Int)≤(p:Int)+(1:Int)∧(p:Int)+(1:Int)≤(9223372036854775807:Int))∧∃ (p':Nat),(p' ≤
    x.length+(1:Nat)∧∀ (j:Nat),j<p'→Snd.q7n x y a b j=false)∧x.length+(1:Nat)-p'<x.length+(1:Nat)-p∧((p:Int)+(1:Int)=(p':Int)∧x=x∧y=y∧a =
    a∧b=b∧True)∧True∧True∧True∧True∧True∧True∧True∧True∧True else ((-9223372036854775808:Int)≤(p:Int)+(1:Int)∧(p:Int)+(1:Int)≤(9223372036854775807 :
    Int))∧∃ (p':Nat),(p'≤x.length+(1:Nat)∧∀ (j:Nat),j<p'→Snd.q7n x y a b j=false)∧x.length+(1:Nat)-p'<x.length+(1:Nat)-p∧((p:Int)+(1:Int)=(↑p'
    : Int)∧x=x∧y=y∧a=a∧b=b∧True)∧True∧True∧True∧True∧True∧True∧True∧True∧True else false=Snd.repB x y a b
     := by
  obtain ⟨hx,ha,hbl⟩:=h;have hx:x.length≤1000000:=hx;have ha:a.length≤1000000:=ha;have hbl:b.length≤1000000:=hbl;simp only [true_and,and_true];refine ⟨⟨0,⟨Q7 _,λj hj=>by omega⟩,rfl⟩,?_⟩
  rintro p ⟨hp,hno⟩;refine ⟨⟨by omega,by omega⟩,bifP (λhb=>?_) λhb=>?_⟩
  · have hle:p+a.length≤x.length:=by have:=of_decide_eq_true hb;omega
    have e1:Q6 p (Q0 (p+a.length) x)=(x.drop p).take a.length:=by rw [List.drop_take,Nat.add_sub_cancel_left]
    have e3:Q6 (p+a.length) (Q0 x.length x)=x.drop (p+a.length):=by rw [Qe]
    have hat:Snd.q7n x y a b p=((x.drop p).take a.length==a&&x.take p++b++x.drop (p+a.length)==y):=by
      unfold Snd.q7n;rw [decide_eq_true hle,QC]
    have nxt:Snd.q7n x y a b p=false→(-9223372036854775808≤(p:Int)+1∧(p:Int)+1≤9223372036854775807)∧∃ p',(p'≤x.length+1∧∀ j,j<p'→Snd.q7n x y a b j=false)∧x.length+1-p'<x.length+1-p∧(p:Int)+1=(p':Int):=λh=>⟨⟨by omega,by omega⟩,p+1,⟨by omega,λj hj=>by
      by_cases e:j=p
      · subst e;exact h
      · exact hno j (by omega)⟩,by omega,by omega⟩
    refine ⟨⟨by omega,by omega⟩,⟨by omega,by omega,by omega⟩,bifP (λh1=>?_) λh1=>nxt ?_⟩
    · have h1:((x.drop p).take a.length==a)=true:=by rw [← e1];exact h1
      refine ⟨⟨by omega,by omega,by omega⟩,?_,⟨by omega,by omega⟩,⟨by omega,by omega,by omega⟩,?_,bifP (λh2=>?_) λh2=>nxt ?_⟩
      · rw [Ql,Qc];omega
      · rw [Qm,Ql,Qc,Ql,Qc];omega
      · have h2:(x.take p++b++x.drop (p+a.length)==y)=true:=by rw [← e3];exact h2
        symm
        unfold Snd.repB;rw [Qt];exact ⟨p,List.mem_range.2 (by omega),by rw [hat,h1,h2];rfl⟩
      · have h2:(x.take p++b++x.drop (p+a.length)==y)=false:=by rw [← e3];exact h2
        rw [hat,h2,Qa]
    · have h1:((x.drop p).take a.length==a)=false:=by rw [← e1];exact h1
      rw [hat,h1,Qi]
  · have hgt:x.length<p+a.length:=by have:=of_decide_eq_false hb;omega
    symm
    unfold Snd.repB;rw [← Qu,Qt];rintro ⟨i,_,hi⟩;by_cases e:i<p
    · rw [hno i e] at hi;cases hi
    · unfold Snd.q7n at hi
      rw [decide_eq_false (by omega)] at hi;cases hi
set_option maxRecDepth 100000 in
theorem rsounds_vc (c:CfP) (x y:List UInt8) (h:qlc.pre (c,x,y)) :
    bif x==y then true=Snd.q29 c x y else (∃ (p':Nat),(p'≤Q5 c∧(Q0 p' c).any (Snd.hitB x y)=false)∧((0:Int)=(p':Int)∧c=c∧x=x∧y=y∧True) ∧
    True∧True∧True∧True∧True∧True∧True∧True∧True)∧∀ (p:Nat),p≤Q5 c∧(Q0 p c).any (Snd.hitB x y)=false→bif decide ((p:Int)<(↑(Q5 c) :
    Int)) then ((0:Int)≤(p:Int)∧(p:Int)<(↑(Q5 c):Int))∧((0:Int)≤(p:Int)∧(p:Int)<(↑(Q5 c):Int))∧(x.length≤(1000000:Nat)∧(Q8 c
    (p:Int).toNat ([],[])).1.length≤(1000000:Nat)∧(Q8 c (p:Int).toNat ([],[])).2.length≤(1000000:Nat))∧bif Snd.repB x y (Q8 c (p:Int).toNat ([],[])).1
    (Q8 c (p:Int).toNat ([],[])).2 then true=Snd.q29 c x y else ((0:Int)≤(p:Int)∧(p:Int)<(↑(Q5 c):Int))∧((0:Int)≤(p:Int)∧(p:Int) <
    (↑(Q5 c):Int))∧(x.length≤(1000000:Nat)∧(Q8 c (p:Int).toNat ([],[])).2.length≤(1000000:Nat)∧(Q8 c (p:Int).toNat ([],[])).1.length≤(1000000 :
    Nat))∧bif Snd.repB x y (Q8 c (p:Int).toNat ([],[])).2 (Q8 c (p:Int).toNat ([],[])).1 then true=Snd.q29 c x y else ((-9223372036854775808:Int)≤(p:Int) +
    (1:Int)∧(p:Int)+(1:Int)≤(9223372036854775807:Int))∧∃ (p':Nat),(p'≤Q5 c∧(Q0 p' c).any (Snd.hitB x y)=false)∧Q5 c-p'<Q5 c-p
    ∧ ((p:Int)+(1:Int)=(p':Int)∧c=c∧x=x∧y=y∧True)∧True∧True∧True∧True∧True∧True∧True∧True∧True else false=Snd.q29 c x y
     := by
  obtain ⟨⟨hn,hq⟩,hx,hy⟩:=h;have hn:c.length≤1000000:=hn;have hx:x.length≤1000000:=hx;simp only [true_and,and_true];refine bifP (λhb=>?_) λhxy=>⟨⟨0,⟨Q7 _,rfl⟩,rfl⟩,?_⟩
  · unfold Snd.q29;rw [hb];rfl
  rintro p ⟨hp,ha⟩;have hti:((p:Int).toNat)=p:=rfl;simp only [hti];have hxy:(x==y)=false:=hxy;refine bifP (λhb=>?_) λhb=>?_
  · have hlt:p<c.length:=by have:=of_decide_eq_true hb;omega
    have hqp:=hq _ (Snd.q1n c ([],[]) p hlt);have yes:Snd.hitB x y (c.getD p ([],[]))=true→true=Snd.q29 c x y:=λh=>by
      unfold Snd.q29;rw [Snd.qix c ([],[]) _ p hlt h,Qh]
    have hst:=Snd.qco c ([],[]) (Snd.hitB x y) p hlt;generalize c.getD p ([],[])=z at *
    refine ⟨⟨by omega,by omega⟩,⟨by omega,by omega⟩,⟨hx,hqp.1,hqp.2⟩,bifP (λh1=>yes ?_) λh1=>⟨⟨by omega,by omega⟩,⟨by omega,by omega⟩,⟨hx,hqp.2,hqp.1⟩,bifP (λh2=>yes ?_) λh2=>⟨⟨by omega,by omega⟩,p+1,⟨by omega,?_⟩,by omega,by omega⟩⟩⟩
    · unfold Snd.hitB;rw [h1];rfl
    · unfold Snd.hitB;rw [h2,Qh]
    · rw [hst,ha];unfold Snd.hitB;rw [h1,h2];rfl
  · have hle:c.length≤p:=by have:=of_decide_eq_false hb;omega
    rw [Qq hle] at ha;unfold Snd.q29;rw [hxy,ha];rfl
set_option maxRecDepth 100000 in
theorem rnear_vc (lang:List UInt8) (ws:List (List UInt8)) (c:CfP) (x:List UInt8) (h:cRNear.pre ((lang,ws),c,x)) :
    q0j (lang,ws)∧bif !Snd.q0c lang ws then ([],(1:Int))=Snd.q10 lang ws c x else q0n c∧bif !Snd.q0h c then ([],(1:Int))=Snd.q10 lang ws c x else x.length ≤
    (1000000:Nat)∧bif !Snd.q0b x (1:Int) (12:Int) then ([],(1:Int))=Snd.q10 lang ws c x else (∃ (p':Nat),p'≤ws.length∧(True∧(0:Int)=(p':Int)∧c=c∧x=x ∧
    True∧True)∧((lang=lang∧ws=ws∧True)∧True)∧(Snd.q3f ws c x p'=[]∧True)∧True∧True∧True∧True∧True∧True∧True)∧∀ (p:Nat),p≤ws.length→bif decide ((↑p :
    Int)<(ws.length:Int)) then ((0:Int)≤(p:Int)∧(p:Int)<(ws.length:Int))∧(q0n c∧(ws.getD (p:Int).toNat []).length≤(1000000:Nat)∧x.length≤(1000000:Nat)) ∧
    bif Snd.q29 c (ws.getD (p:Int).toNat []) x then ((Snd.q3f ws c x p).length+[(p:Int)].length)*(8:Nat)≤(140737488355328:Nat)∧((-9223372036854775808:Int)≤(p:Int)
    + (1:Int)∧(p:Int)+(1:Int)≤(9223372036854775807:Int))∧∃ (p':Nat),p'≤ws.length∧ws.length-p'<ws.length-p∧(True∧(p:Int)+(1:Int)=(p':Int)∧c=c∧x
    = x∧True∧True)∧((lang=lang∧ws=ws∧True)∧True)∧(Snd.q3f ws c x p++[(p:Int)]=Snd.q3f ws c x p'∧True)∧True∧True∧True∧True∧True∧True∧True else
    ((-9223372036854775808:Int)≤(p:Int)+(1:Int)∧(p:Int)+(1:Int)≤(9223372036854775807:Int))∧∃ (p':Nat),p'≤ws.length∧ws.length-p'<ws.length-p∧(True∧(↑p :
    Int)+(1:Int)=(p':Int)∧c=c∧x=x∧True∧True)∧((lang=lang∧ws=ws∧True)∧True)∧(Snd.q3f ws c x p=Snd.q3f ws c x p'∧True)∧True∧True∧True∧True∧True
    ∧ True∧True else (Snd.q3f ws c x p,(0:Int))=Snd.q10 lang ws c x
     := by
  obtain ⟨hW,hL,hx⟩:=h;have hx:x.length≤1000000:=hx;have hn:ws.length≤1000000:=hW.2.1;simp only [true_and,and_true];have bad:(Snd.q0c lang ws&&(Snd.q0h c&&Snd.q9m x))=false→(([],1):List Int×Int)=Snd.q10 lang ws c x:=λh=>by
    unfold Snd.q10;rw [if_neg (by rw [h];exact QK)]
  refine ⟨hW,bifP (λhb=>bad ?_) λh1=>⟨hL,bifP (λhb=>bad ?_) λh2=>⟨hx,bifP (λhb=>bad ?_) λh3=>?_⟩⟩⟩
  · rw [show Snd.q0c lang ws=false by simpa using hb];rfl
  · rw [show Snd.q0h c=false by simpa using hb,Qi,Qa]
  · rw [show Snd.q9m x=false by simpa [Snd.q9m] using hb,Qa,Qa]
  have hok:(Snd.q0c lang ws&&(Snd.q0h c&&Snd.q9m x))=true:=by
    rw [show Snd.q0c lang ws=true by simpa using h1,show Snd.q0h c=true by simpa using h2,show Snd.q9m x=true by simpa [Snd.q9m] using h3];rfl
  refine ⟨⟨0,Q7 _,rfl,rfl⟩,?_⟩;intro p hp;have hti:((p:Int).toNat)=p:=rfl;simp only [hti];refine bifP (λhb=>?_) λhb=>?_
  · have hlt:p<ws.length:=by have:=of_decide_eq_true hb;omega
    have hlen:(Snd.q3f ws c x p).length≤p:=by
      unfold Snd.q3f;rw [Qx];exact Qn (List.length_filter_le _ _) (by rw [List.length_range];exact Nat.le_refl _)
    have hst:Snd.q3f ws c x (p+1)=Snd.q3f ws c x p++if Snd.q29 c (ws.getD p []) x then [(p:Int)] else []:=by
      unfold Snd.q3f;rw [List.range_succ,List.filter_append,List.map_append];cases h:Snd.q29 c (ws.getD p []) x
      · rw [QL,if_neg (by rw [h];exact QK)];rfl
      · rw [QL,if_pos h];rfl
    have hwl:=hW.2.2 _ (Snd.q1n ws [] p hlt);refine ⟨⟨by omega,by omega⟩,⟨hL,hwl,hx⟩,bifP (λhs=>?_) λhs=>?_⟩
    · refine ⟨by rw [Qg];omega,⟨by omega,by omega⟩,p+1,by omega,by omega,by omega,?_⟩
      rw [hst,hs];rfl
    · refine ⟨⟨by omega,by omega⟩,p+1,by omega,by omega,by omega,?_⟩
      rw [hst,hs];simp
  · have hle:p=ws.length:=by have:=of_decide_eq_false hb;omega
    subst hle;unfold Snd.q10;rw [if_pos hok]
set_option maxRecDepth 100000 in
theorem qfm:cRLet.Holds Tryz.prog:=by
 refine q0s (cons:=[]) Tryz.func95 (by kernel_rfl) (by kernel_rfl) mixed (by kernel_rfl) (λc h=>by cases h) (λp=>anRLet p.1) λp hp=>?_
 obtain ⟨s,lo,hi⟩:=p;refine cast ?_ (rlet_vc s lo hi hp)
 kernel_rfl
set_option maxRecDepth 100000 in
theorem qcv:qe9.Holds Tryz.prog:=by
 refine q0s (cons:=[cNameR,cRLet]) Tryz.func64 (by kernel_rfl) (by kernel_rfl) mixed (by kernel_rfl) (λc h=>by
  rcases QD.1 h with rfl | h
  ·exact qe4
  ·obtain rfl:=Qp.1 h;exact qfm) (λp=>anRValid p.2) λp hp=>?_
 obtain ⟨lang,ws⟩:=p;refine cast ?_ (rvalid_vc lang ws hp)
 kernel_rfl
set_option maxRecDepth 100000 in
theorem qbd:qcr.Holds Tryz.prog:=by
 refine q0s (cons:=[cRLet]) Tryz.func46 (by kernel_rfl) (by kernel_rfl) mixed (by kernel_rfl) (λc h=>by obtain rfl:=Qp.1 h;exact qfm) (λp=>anRProper p) λp hp=>?_
 refine cast ?_ (rproper_vc p hp)
 kernel_rfl
set_option maxRecDepth 100000 in
theorem rrep_holds:cRRep.Holds Tryz.prog:=by
 refine q0s (cons:=[]) Tryz.func151 (by kernel_rfl) (by kernel_rfl) mixed (by kernel_rfl) (λc h=>by cases h) (λp=>anRRep p.1 p.2.1 p.2.2.1 p.2.2.2) λp hp=>?_
 obtain ⟨x,y,a,b⟩:=p;refine cast ?_ (rrep_vc x y a b hp)
 kernel_rfl
set_option maxRecDepth 100000 in
theorem qnb:qlc.Holds Tryz.prog:=by
 refine q0s (cons:=[cRRep]) Tryz.func126 (by kernel_rfl) (by kernel_rfl) mixed (by kernel_rfl) (λc h=>by obtain rfl:=Qp.1 h;exact rrep_holds) (λp=>anRSounds p.1 p.2.1 p.2.2) λp hp=>?_
 obtain ⟨c,x,y⟩:=p;refine cast ?_ (rsounds_vc c x y hp)
 kernel_rfl
set_option maxRecDepth 100000 in
theorem rnear_holds:cRNear.Holds Tryz.prog:=by
 refine q0s (cons:=[qe9,qcr,cRLet,qlc]) Tryz.func96 (by kernel_rfl) (by kernel_rfl) mixed (by kernel_rfl) (λc h=>by
  rcases QD.1 h with rfl | h
  ·exact qcv
  rcases QD.1 h with rfl | h
  ·exact qbd
  rcases QD.1 h with rfl | h
  ·exact qfm
  ·obtain rfl:=Qp.1 h;exact qnb) (λp=>anRNear p.1.2 p.2.1 p.2.2) λp hp=>?_
 obtain ⟨⟨lang,ws⟩,c,x⟩:=p;refine cast ?_ (rnear_vc lang ws c x hp)
 kernel_rfl
theorem on07_vc (p:Int×Int) (h:cOn07.pre p) :
    bif decide ((0:Int)≤p.1) then bif decide (p.1≤(32767:Int)) then bif decide ((0:Int)≤p.2) then decide (p.2≤(32767:Int))=Cod.onB p else false=Cod.onB p else false=Cod.onB
    p else false=Cod.onB p
     := by
  have hv:Cod.onB p=(decide (0≤p.1)&&(decide (p.1≤32767)&&(decide (0≤p.2)&&decide (p.2≤32767)))):=by
    rw [Bool.eq_iff_iff];unfold Cod.onB;simp only [Qo,decide_eq_true_eq];omega
  rw [hv];refine bifP (λh1=>?_) λh1=>?_
  · rw [h1]
    refine bifP (λh2=>?_) λh2=>?_
    · rw [h2]
      refine bifP (λh3=>?_) λh3=>?_
      · rw [h3];rfl
      · rw [h3];rfl
    · rw [h2];rfl
  · rw [h1];rfl
theorem dist07_vc (p q:Int×Int) (h:cDist07.pre (p,q)) :
    True∧bif !Cod.onB p then (0:Int)=Cod.q5g p q else True∧bif !Cod.onB q then (0:Int)=Cod.q5g p q else ((-9223372036854775808:Int)≤p.1-q.1∧p.1-q.1 ≤
    (9223372036854775807:Int))∧((-9223372036854775808:Int)≤p.1-q.1∧p.1-q.1≤(9223372036854775807:Int))∧((-9223372036854775808:Int)≤(p.1-q.1)*(p.1-q.1)∧(p.1-q.1)
    * (p.1-q.1)≤(9223372036854775807:Int))∧((-9223372036854775808:Int)≤p.2-q.2∧p.2-q.2≤(9223372036854775807:Int))∧((-9223372036854775808:Int)≤p.2-q.2∧p.2-q.2 ≤
    (9223372036854775807:Int))∧((-9223372036854775808:Int)≤(p.2-q.2)*(p.2-q.2)∧(p.2-q.2)*(p.2-q.2)≤(9223372036854775807:Int))∧((-9223372036854775808:Int)≤(p.1 -
    q.1)*(p.1-q.1)+(p.2-q.2)*(p.2-q.2)∧(p.1-q.1)*(p.1-q.1)+(p.2-q.2)*(p.2-q.2)≤(9223372036854775807:Int))∧(p.1-q.1)*(p.1-q.1)+(p.2-q.2)*(p.2-q.2)
    = Cod.q5g p q
     := by
  simp only [true_and];refine bifP (λh1=>?_) λh1=>bifP (λh2=>?_) λh2=>?_
  · unfold Cod.q5g
    rw [show Cod.onB p=false by simpa using h1,Qi,if_neg (by decide)]
  · unfold Cod.q5g
    rw [show Cod.onB q=false by simpa using h2,Qa,if_neg (by decide)]
  · have hp:Cod.onB p=true:=by simpa using h1
    have hq:Cod.onB q=true:=by simpa using h2
    obtain ⟨⟨a1,a2⟩,a3,a4⟩:=Cod.qe8 hp;obtain ⟨⟨b1,b2⟩,b3,b4⟩:=Cod.qe8 hq;have m1:=Cod.qdl (a:=p.1-q.1) (b:=p.1-q.1) (by omega) (by omega) (by omega) (by omega)
    have m2:=Cod.qdl (a:=p.2-q.2) (b:=p.2-q.2) (by omega) (by omega) (by omega) (by omega)
    refine ⟨⟨by omega,by omega⟩,⟨by omega,by omega⟩,⟨by omega,by omega⟩,⟨by omega,by omega⟩,⟨by omega,by omega⟩,⟨by omega,by omega⟩,⟨by omega,by omega⟩,?_⟩
    rw [Cod.dist_symm];unfold Cod.q5g Cod.sq;rw [hp,hq,Bool.and_self,if_pos rfl]
end Go.Proofs.YtlfaaoalgcbcoaaGreatDoor

/-
  CodeNear.
-/
import Derived.Test.YtfecgebhoondjaaGreatDoorPT
set_option linter.unusedVariables false
namespace Go.Proofs.YtfecgebhoondjaaGreatDoor
open Go.RowKit
open R
abbrev qax (book:q0k) (e:Cod.Ear) (i:Int) (k:Int) (p':Cod.Giv×Cod.Giv):Prop :=
 (((List.getD book ((IntKind.i64.wrap i).tmod (↑(List.length book):Int)).toNat Cod.noG).1=p'.1.1∧(List.getD book ((IntKind.i64.wrap i).tmod (↑(List.length book):Int)).toNat Cod.noG).2.1=p'.1.2.1∧(List.getD book ((IntKind.i64.wrap i).tmod (↑(List.length book):Int)).toNat Cod.noG).2.2.1=p'.1.2.2.1∧(List.getD book ((IntKind.i64.wrap i).tmod (↑(List.length book):Int)).toNat Cod.noG).2.2.2.1=p'.1.2.2.2.1∧(List.getD book ((IntKind.i64.wrap i).tmod (↑(List.length book):Int)).toNat Cod.noG).2.2.2.2=p'.1.2.2.2.2∧True)∧((List.getD book ((IntKind.i64.wrap k).tmod (↑(List.length book):Int)).toNat Cod.noG).1=p'.2.1∧(List.getD book ((IntKind.i64.wrap k).tmod (↑(List.length book):Int)).toNat Cod.noG).2.1=p'.2.2.1∧(List.getD book ((IntKind.i64.wrap k).tmod (↑(List.length book):Int)).toNat Cod.noG).2.2.1=p'.2.2.2.1∧(List.getD book ((IntKind.i64.wrap k).tmod (↑(List.length book):Int)).toNat Cod.noG).2.2.2.1=p'.2.2.2.2.1∧(List.getD book ((IntKind.i64.wrap k).tmod (↑(List.length book):Int)).toNat Cod.noG).2.2.2.2=p'.2.2.2.2.2∧True)∧(e.lang=e.lang∧e.ws=e.ws∧True)∧True)
abbrev q8k (book:q0k) (e:Cod.Ear) (i:Int) (k:Int):Prop :=
 (∃ (p':Cod.Giv×Cod.Giv),qbz e book i k p'∧(True∧True∧e.c=e.c∧True∧true=true∧True)∧(qax book e i k p')∧True∧True∧True∧True∧True∧True∧True∧True)
set_option maxRecDepth 100000 in
theorem nearL_vc (e:Cod.Ear) (book:q0k) (i k:Int) (h:cNearL.pre ((e.lang,e.ws),e.c,book,i,k)) :
  True∧True∧bif !q2r (e.lang,e.ws) e.c book (8:Int) then true=true else (q0c (e.lang,e.ws)∧q0h e.c∧q15 book)∧bif !e.proper book then true=true else bif decide ((↑(List.length book):Int)<2) then true=true else ((↑(List.length book):Int)≠(0:Int)∧((0:Int)≤(IntKind.i64.wrap i).tmod (↑(List.length book):Int)∧(IntKind.i64.wrap i).tmod (↑(List.length book):Int)<(↑(List.length book):Int))∧(↑(List.length book):Int)≠(0:Int)∧((0:Int)≤(IntKind.i64.wrap k).tmod (↑(List.length book):Int)∧(IntKind.i64.wrap k).tmod (↑(List.length book):Int)<(↑(List.length book):Int))∧((q8k book e i k)∧∃ (p':Cod.Giv×Cod.Giv),qbz e book i k p'∧(True∧True∧e.c=e.c∧True∧true=true∧True)∧(qax book e i k p')∧True∧True∧True∧True∧True∧True∧True∧True)∧((q8k book e i k)∧(q8k book e i k)∧∃ (p':Cod.Giv×Cod.Giv),qbz e book i k p'∧(True∧True∧e.c=e.c∧True∧true=true∧True)∧(qax book e i k p')∧True∧True∧True∧True∧True∧True∧True∧True)∧(q8k book e i k)∧(q8k book e i k)∧∃ (p':Cod.Giv×Cod.Giv),qbz e book i k p'∧(True∧True∧e.c=e.c∧True∧true=true∧True)∧(qax book e i k p')∧True∧True∧True∧True∧True∧True∧True∧True)∧∀ (p:Cod.Giv×Cod.Giv),qbz e book i k p→bif p.1.1==p.2.1 then true=true else bif !p.1.2.2.1 then true=true else bif !p.2.2.2.1 then true=true else True∧bif decide ((1000000:Int)<Cod.qag p.1.2.2.2 p.2.2.2.2) then true=true else (q0c (e.lang,e.ws)∧q0h e.c∧p.1.2.1.length≤(1000000:Nat))∧(q0c (e.lang,e.ws)∧q0h e.c∧p.2.2.1.length≤(1000000:Nat))∧(∃ (p':Nat),(p'≤(e.q05 p.1.2.1).1.length∧((List.take p' (e.q05 p.1.2.1).1).all fun (z:List Int)=>!(e.q05 p.2.2.1).1.any fun (y:List Int)=>y==z)=true)∧((0:Int)=(p':Int)∧true=true∧(e.q05 p.1.2.1).1=(e.q05 p.1.2.1).1∧(e.q05 p.1.2.1).2=(e.q05 p.1.2.1).2∧(e.q05 p.2.2.1).1=(e.q05 p.2.2.1).1∧(e.q05 p.2.2.1).2=(e.q05 p.2.2.1).2∧True)∧True∧True∧True∧True∧True∧True∧True∧True∧True)∧∀ (p_1:Nat),p_1≤(e.q05 p.1.2.1).1.length∧((List.take p_1 (e.q05 p.1.2.1).1).all fun (z:List Int)=>!(e.q05 p.2.2.1).1.any fun (y:List Int)=>y==z)=true→bif decide ((p_1:Int)<(↑(e.q05 p.1.2.1).1.length:Int)) then (0≤(p_1:Int)∧(p_1:Int)<(↑(e.q05 p.1.2.1).1.length:Int))∧q5j (e.q05 p.2.2.1).1∧bif (e.q05 p.2.2.1).1.any fun (y:List Int)=>y==(e.q05 p.1.2.1).1.getD (p_1:Int).toNat [] then false=true else (zFit ((p_1:Int)+1))∧∃ (p':Nat),(p'≤(e.q05 p.1.2.1).1.length∧((List.take p' (e.q05 p.1.2.1).1).all fun (z:List Int)=>!(e.q05 p.2.2.1).1.any fun (y:List Int)=>y==z)=true)∧(e.q05 p.1.2.1).1.length-p'<(e.q05 p.1.2.1).1.length-p_1∧((p_1:Int)+1=(p':Int)∧true=true∧(e.q05 p.1.2.1).1=(e.q05 p.1.2.1).1∧(e.q05 p.1.2.1).2=(e.q05 p.1.2.1).2∧(e.q05 p.2.2.1).1=(e.q05 p.2.2.1).1∧(e.q05 p.2.2.1).2=(e.q05 p.2.2.1).2∧True)∧True∧True∧True∧True∧True∧True∧True∧True∧True else bif (e.q05 p.1.2.1).2==(0:Int) then bif (e.q05 p.2.2.1).2==(0:Int) then bif decide ((0:Int)<(↑(e.q05 p.1.2.1).1.length:Int)) then decide ((0:Int)<(↑(e.q05 p.2.2.1).1.length:Int))=true else false=true else false=true else false=true:=by
 delta qax q8k zFit
 obtain ⟨_,_,_,hi,hk⟩:=h
 simp only [true_and,and_true,eq_self,and_self]
 refine bifP (fun _=>trivial) fun hf=>?_
 have hf:=q1m hf
 obtain ⟨hW,hC,hB,hm,hw⟩:=q61 hf
 have hw:e.ws.length≤8:=hw
 refine ⟨⟨hW,hC,q9t hB hm (by omega)⟩,bifP (fun _=>trivial) fun hp=>bifP (fun _=>trivial) fun h2=>?_⟩
 have hp:=q1m hp
 have h2:2≤book.length:=by have:=of_decide_eq_false h2; omega
 obtain ⟨i',ei,hi'⟩:=idx41 hi (n:=book.length) (by omega)
 obtain ⟨k',ek,hk'⟩:=idx41 hk (n:=book.length) (by omega)
 unfold qbz
 simp only [ei,ek,Int.toNat_natCast]
 refine ⟨⟨by omega,⟨by omega,by omega⟩,by omega,⟨by omega,by omega⟩,(_,_),⟨hf,hp,h2,rfl,rfl⟩,⟨rfl,rfl,rfl,rfl,rfl⟩,rfl,rfl,rfl,rfl,rfl⟩,?_⟩
 rintro ⟨o,g⟩ ⟨_,_,_,ho,hg⟩
 dsimp only at *
 refine bifP (fun _=>trivial) fun hd=>bifP (fun _=>trivial) fun hpo=>bifP (fun _=>trivial) fun hpg=>bifP (fun _=>trivial) fun hds=>?_
 have hik:i'≠k':=fun h=>by rw [ho,hg,h,beq_self_eq_true] at hd; cases hd
 obtain ⟨_,two2⟩:=Cod.qku hp Cod.noG hi' hk' hik
 rw [← ho,← hg] at two2
 obtain ⟨_,_,ap3⟩:=Cod.q5y.1 two2
 have hng:Cod.q0q o g=true:=by
  unfold Cod.q0q Cod.ptOf
  rw [q1m hpo,q1m hpg,decide_eq_true (by have:=of_decide_eq_false hds; omega)]; rfl
 have mo:=qcn hp hi'
 have mg:=qcn hp hk'
 have hgo:=hB _ (Snd.q11 book Cod.noG i' hi')
 have hgg:=hB _ (Snd.q11 book Cod.noG k' hk')
 rw [← ho] at mo hgo
 rw [← hg] at mg hgg
 have pos:∀ {j:Nat},j<book.length→0<(Cod.q1s (e.miss (book.getD j Cod.noG).2.1)).length:=fun {j} hj=>by
  obtain ⟨_,_,h3,_⟩:=Cod.q4k.1 hp
  have:=h3 _ (Snd.q11 book Cod.noG j hj)
  unfold Cod.okG at this
  simp only [Bool.and_eq_true] at this
  obtain ⟨_,hl,_⟩:=Cod.q79 this.2.2
  exact List.length_pos_of_mem (Cod.q3f.2 (Cod.qkv (k:=0) (by omega)))
 have po:=pos hi'
 have pg:=pos hk'
 rw [← ho] at po
 rw [← hg] at pg
 rw [mo,mg]
 dsimp only
 have hLg:=q9h (e:=e) hw hgg.1
 have hlo:=(q9h (e:=e) hw hgo.1).1
 refine ⟨⟨hW,hC,by omega⟩,⟨hW,hC,by omega⟩,⟨0,⟨Nat.zero_le _,rfl⟩,rfl⟩,?_⟩
 rintro p ⟨hpl,hall⟩
 refine bifP (fun hb=>?_) fun hb=>?_
 ·have hb:=of_decide_eq_true hb
  have hti:((p:Int).toNat)=p:=rfl
  have hno:(Cod.q1s (e.miss g.2.1)).any (fun y=>y==(Cod.q1s (e.miss o.2.1)).getD p [])=false:=any_eq_false fun hm=>by
   have h1:=Cod.q3f.1 hm
   have h2:=Cod.q3f.1 (Snd.q11 (Cod.q1s (e.miss o.2.1)) [] p (by omega))
   exact (ap3 _ h1).2 ⟨h2,hng⟩
  refine ⟨⟨by omega,by omega⟩,hLg,bifP (fun hy=>?_) fun _=>⟨⟨by omega,by omega⟩,p+1,⟨by omega,?_⟩,by omega,by omega⟩⟩
  ·rw [hno] at hy; cases hy
  ·rw [Snd.q6c _ [] _ p (by omega),hall,hno]; rfl
 ·rw [decide_eq_true (show (0:Int)<((Cod.q1s (e.miss o.2.1)).length:Int) by omega),decide_eq_true (show (0:Int)<((Cod.q1s (e.miss g.2.1)).length:Int) by omega)]
  rfl
theorem qm2:∀ c∈consNearL,c.Holds Tryz.prog:=all_cons q5s (all_cons q4q (all_cons q6g (all_cons q9f (all_cons qhb (all_cons qla all_nil)))))
set_option maxRecDepth 100000 in
theorem nearL_holds:cNearL.Holds Tryz.prog:=by
 refine q1n (cons:=consNearL) Tryz.func11 (by kernel_rfl) (by kernel_rfl) mixed (by kernel_rfl) qm2 (fun p=>anNearL ⟨p.1.1,p.1.2,p.2.1⟩ p.2.2.1 p.2.2.2.1 p.2.2.2.2) fun p hp=>?_
 obtain ⟨⟨lang,ws⟩,c,book,i,k⟩:=p
 refine cast ?_ (nearL_vc ⟨lang,ws,c⟩ book i k hp)
 kernel_rfl
end Go.Proofs.YtfecgebhoondjaaGreatDoor

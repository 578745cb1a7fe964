/-
  CodeGives.
-/
import Derived.Test.YtfecgebhoondjaaGreatDoorPT
set_option linter.unusedVariables false
namespace Go.Proofs.YtfecgebhoondjaaGreatDoor
open Go.RowKit
open R
abbrev q2w (book:q0k) (e:Cod.Ear) (g:Cod.Giv) (size:Int):Prop :=
 ((e.lang=e.lang∧e.ws=e.ws∧True)∧(g.1=g.1∧g.2.1=g.2.1∧g.2.2.1=g.2.2.1∧g.2.2.2.1=g.2.2.2.1∧g.2.2.2.2=g.2.2.2.2∧True)∧((e.q06 book g size).1.1=(e.q06 book g size).1.1∧(e.q06 book g size).1.2.1=(e.q06 book g size).1.2.1∧(e.q06 book g size).1.2.2.1=(e.q06 book g size).1.2.2.1∧(e.q06 book g size).1.2.2.2.1=(e.q06 book g size).1.2.2.2.1∧(e.q06 book g size).1.2.2.2.2=(e.q06 book g size).1.2.2.2.2∧True)∧True)
abbrev q60 (book:q0k) (e:Cod.Ear) (g:Cod.Giv) (size:Int) (x:List Int):Prop :=
 ((([]:q0k).length+List.length book)*(64:Nat)≤(140737488355328:Nat)∧(([]++book).length+[(e.q06 book g size).1].length)*(64:Nat)≤(140737488355328:Nat)∧(q0c (e.lang,e.ws)∧q0h e.c∧q15 ([]++book++[(e.q06 book g size).1]))∧bif !e.proper ([]++book++[(e.q06 book g size).1]) then false=true else ∃ (p':Unit),q1x e book g size∧(e.c=e.c∧book=book∧size=size∧x=x∧True∧True∧true=true∧True∧(e.q06 book g size).2=(e.q06 book g size).2∧True)∧(q2w book e g size)∧True∧True∧True∧True∧True∧True∧True∧True)
abbrev q8c (book:q0k) (e:Cod.Ear) (g:Cod.Giv) (size:Int) (x:List Int):Prop :=
 ((([]++book).length+[(e.q06 book g size).1].length)*(64:Nat)≤(140737488355328:Nat)∧(q0c (e.lang,e.ws)∧q0h e.c∧q15 ([]++book++[(e.q06 book g size).1]))∧bif !e.proper ([]++book++[(e.q06 book g size).1]) then false=true else ∃ (p':Unit),q1x e book g size∧(e.c=e.c∧book=book∧size=size∧x=x∧True∧True∧true=true∧True∧(e.q06 book g size).2=(e.q06 book g size).2∧True)∧(q2w book e g size)∧True∧True∧True∧True∧True∧True∧True∧True)
abbrev q3v (book:q0k) (e:Cod.Ear) (g:Cod.Giv) (size:Int) (x:List Int):Prop :=
 (e.c=e.c∧book=book∧size=size∧x=x∧True∧True∧true=true∧True∧(e.q06 book g size).2=(e.q06 book g size).2∧True)
abbrev qaw (book:q0k) (e:Cod.Ear) (g:Cod.Giv) (size:Int) (x:List Int):Prop :=
 ((q60 book e g size x)∧(([]:q0k).length+List.length book)*(64:Nat)≤(140737488355328:Nat)∧(([]++book).length+[(e.q06 book g size).1].length)*(64:Nat)≤(140737488355328:Nat)∧(q0c (e.lang,e.ws)∧q0h e.c∧q15 ([]++book++[(e.q06 book g size).1]))∧bif !e.proper ([]++book++[(e.q06 book g size).1]) then false=true else ∃ (p':Unit),q1x e book g size∧(q3v book e g size x)∧(q2w book e g size)∧True∧True∧True∧True∧True∧True∧True∧True)
abbrev qcw (book:q0k) (e:Cod.Ear) (g:Cod.Giv) (size:Int) (x:List Int):Prop :=
 ((([]:q0k).length+List.length book)*(64:Nat)≤(140737488355328:Nat)∧(q8c book e g size x)∧(q8c book e g size x)∧(([]++book).length+[(e.q06 book g size).1].length)*(64:Nat)≤(140737488355328:Nat)∧(q0c (e.lang,e.ws)∧q0h e.c∧q15 ([]++book++[(e.q06 book g size).1]))∧bif !e.proper ([]++book++[(e.q06 book g size).1]) then false=true else ∃ (p':Unit),q1x e book g size∧(q3v book e g size x)∧(q2w book e g size)∧True∧True∧True∧True∧True∧True∧True∧True)
abbrev qgh (book:q0k) (e:Cod.Ear) (g:Cod.Giv) (size:Int) (x:List Int):Prop :=
 ((q60 book e g size x)∧(q60 book e g size x)∧(([]:q0k).length+List.length book)*(64:Nat)≤(140737488355328:Nat)∧(([]++book).length+[(e.q06 book g size).1].length)*(64:Nat)≤(140737488355328:Nat)∧(q0c (e.lang,e.ws)∧q0h e.c∧q15 ([]++book++[(e.q06 book g size).1]))∧bif !e.proper ([]++book++[(e.q06 book g size).1]) then false=true else ∃ (p':Unit),q1x e book g size∧(q3v book e g size x)∧(q2w book e g size)∧True∧True∧True∧True∧True∧True∧True∧True)
abbrev qg0:Prop :=
 ((false=true∧false=true∧false=true)∧(false=true∧false=true∧false=true)∧(false=true∧false=true)∧(false=true∧false=true∧false=true)∧false=true∧false=true∧false=true)
set_option maxRecDepth 100000 in
theorem gives_vc (e:Cod.Ear) (book:q0k) (g:Cod.Giv) (size:Int) (x:List Int) (h:cGives.pre ((e.lang,e.ws),e.c,book,g,size,x)) :
  True∧True∧bif !q2r (e.lang,e.ws) e.c book (8:Int) then true=true else True∧bif !q2r (e.lang,e.ws) e.c [g] (8:Int) then true=true else bif decide (8<(x.length:Int)) then true=true else (e.ws.length≤(1000000:Nat)∧(1:Int)≤600∧(600:Int)≤1000)∧bif decide ((600:Int)<q4b (e.ws.length:Int) (600:Int) (min size.toNat (6:Nat)) (1:Int)) then true=true else (q0c (e.lang,e.ws)∧q0h e.c∧q15 book∧g.1.length≤(1000:Nat)∧g.2.1.length≤(1000000:Nat))∧bif (e.q06 book g size).2==(1:Int) then (e.q06 book g size).1.2.1.length≤(1000000000000000:Nat)∧((e.q06 book g size).1==Cod.noG)=true else bif (e.q06 book g size).2==(8:Int) then (e.q06 book g size).1.2.1.length≤(1000000000000000:Nat)∧((e.q06 book g size).1==Cod.noG)=true else ((q0c (e.lang,e.ws)∧q0h e.c∧q15 book)∧bif !e.proper book then false=true else bif (e.q06 book g size).2 != (0:Int) then bif (e.q06 book g size).2 != (22:Int) then false=true else ∃ (p':Unit),q1x e book g size∧(q3v book e g size x)∧(q2w book e g size)∧True∧True∧True∧True∧True∧True∧True∧True else ∃ (p':Unit),q1x e book g size∧(q3v book e g size x)∧(q2w book e g size)∧True∧True∧True∧True∧True∧True∧True∧True)∧∀ (p:Unit),q1x e book g size→(bif (e.q06 book g size).2==(0:Int) then bif (↑(e.q06 book g size).1.2.1.length:Int) != size then ((false=true∧false=true∧false=true)∧(false=true∧false=true)∧false=true)∧qg0∧((false=true∧false=true)∧false=true)∧((false=true∧false=true)∧(false=true∧false=true∧false=true)∧false=true∧false=true∧false=true)∧false=true∧false=true∧false=true∧false=true else ([]:List Int).length≤(1000000000000000:Nat)∧bif !((e.q06 book g size).1.1,[],(e.q06 book g size).1.2.2)==g then ((false=true∧false=true∧false=true)∧(false=true∧false=true)∧false=true)∧qg0∧((false=true∧false=true)∧false=true)∧((false=true∧false=true)∧(false=true∧false=true∧false=true)∧false=true∧false=true∧false=true)∧false=true∧false=true∧false=true∧false=true else ((qgh book e g size x)∧(qaw book e g size x)∧(([]:q0k).length+List.length book)*(64:Nat)≤(140737488355328:Nat)∧(([]++book).length+[(e.q06 book g size).1].length)*(64:Nat)≤(140737488355328:Nat)∧(q0c (e.lang,e.ws)∧q0h e.c∧q15 ([]++book++[(e.q06 book g size).1]))∧bif !e.proper ([]++book++[(e.q06 book g size).1]) then false=true else ∃ (p':Unit),q1x e book g size∧(q3v book e g size x)∧(q2w book e g size)∧True∧True∧True∧True∧True∧True∧True∧True)∧((qgh book e g size x)∧(qcw book e g size x)∧(qaw book e g size x)∧(qcw book e g size x)∧(q60 book e g size x)∧(([]:q0k).length+List.length book)*(64:Nat)≤(140737488355328:Nat)∧(q8c book e g size x)∧(([]++book).length+[(e.q06 book g size).1].length)*(64:Nat)≤(140737488355328:Nat)∧(q0c (e.lang,e.ws)∧q0h e.c∧q15 ([]++book++[(e.q06 book g size).1]))∧bif !e.proper ([]++book++[(e.q06 book g size).1]) then false=true else ∃ (p':Unit),q1x e book g size∧(q3v book e g size x)∧(q2w book e g size)∧True∧True∧True∧True∧True∧True∧True∧True)∧((qaw book e g size x)∧(([]:q0k).length+List.length book)*(64:Nat)≤(140737488355328:Nat)∧(([]++book).length+[(e.q06 book g size).1].length)*(64:Nat)≤(140737488355328:Nat)∧(q0c (e.lang,e.ws)∧q0h e.c∧q15 ([]++book++[(e.q06 book g size).1]))∧bif !e.proper ([]++book++[(e.q06 book g size).1]) then false=true else ∃ (p':Unit),q1x e book g size∧(q3v book e g size x)∧(q2w book e g size)∧True∧True∧True∧True∧True∧True∧True∧True)∧((qaw book e g size x)∧(qcw book e g size x)∧(q60 book e g size x)∧(([]:q0k).length+List.length book)*(64:Nat)≤(140737488355328:Nat)∧(q8c book e g size x)∧(([]++book).length+[(e.q06 book g size).1].length)*(64:Nat)≤(140737488355328:Nat)∧(q0c (e.lang,e.ws)∧q0h e.c∧q15 ([]++book++[(e.q06 book g size).1]))∧bif !e.proper ([]++book++[(e.q06 book g size).1]) then false=true else ∃ (p':Unit),q1x e book g size∧(q3v book e g size x)∧(q2w book e g size)∧True∧True∧True∧True∧True∧True∧True∧True)∧(q60 book e g size x)∧(q60 book e g size x)∧(([]:q0k).length+List.length book)*(64:Nat)≤(140737488355328:Nat)∧(q8c book e g size x)∧(([]++book).length+[(e.q06 book g size).1].length)*(64:Nat)≤(140737488355328:Nat)∧(q0c (e.lang,e.ws)∧q0h e.c∧q15 ([]++book++[(e.q06 book g size).1]))∧bif !e.proper ([]++book++[(e.q06 book g size).1]) then false=true else ∃ (p':Unit),q1x e book g size∧(q3v book e g size x)∧(q2w book e g size)∧True∧True∧True∧True∧True∧True∧True∧True else ∃ (p':Unit),q1x e book g size∧(q3v book e g size x)∧(q2w book e g size)∧True∧True∧True∧True∧True∧True∧True∧True)∧∀ (p:Unit),q1x e book g size→(bif (x.length:Int) != size then true=true else bif (e.q06 book g size).2==(0:Int) then x.length≤(1000000000000000:Nat)∧bif !Cod.q5h x (e.q06 book g size).1.2.1 then true=true else ∃ (p':Unit),(q1x e book g size∧(x.length:Int)=size∧((e.q06 book g size).2=(0:Int)→Cod.q5h x (e.q06 book g size).1.2.1=true))∧(e.c=e.c∧book=book∧x=x∧True∧True∧true=true∧True)∧((e.lang=e.lang∧e.ws=e.ws∧True)∧(g.1=g.1∧g.2.1=g.2.1∧g.2.2.1=g.2.2.1∧g.2.2.2.1=g.2.2.2.1∧g.2.2.2.2=g.2.2.2.2∧True)∧True)∧True∧True∧True∧True∧True∧True∧True∧True else ∃ (p':Unit),(q1x e book g size∧(x.length:Int)=size∧((e.q06 book g size).2=(0:Int)→Cod.q5h x (e.q06 book g size).1.2.1=true))∧(e.c=e.c∧book=book∧x=x∧True∧True∧true=true∧True)∧((e.lang=e.lang∧e.ws=e.ws∧True)∧(g.1=g.1∧g.2.1=g.2.1∧g.2.2.1=g.2.2.1∧g.2.2.2.1=g.2.2.2.1∧g.2.2.2.2=g.2.2.2.2∧True)∧True)∧True∧True∧True∧True∧True∧True∧True∧True)∧∀ (p:Unit),q1x e book g size∧(x.length:Int)=size∧((e.q06 book g size).2=(0:Int)→Cod.q5h x (e.q06 book g size).1.2.1=true)→(((([]:q0k).length+List.length book)*(64:Nat)≤(140737488355328:Nat)∧(([]++book).length+[(g.1,x,g.2.2)].length)*(64:Nat)≤(140737488355328:Nat)∧(q0c (e.lang,e.ws)∧q0h e.c∧q15 ([]++book++[(g.1,x,g.2.2)]))∧(!e.proper ([]++book++[(g.1,x,g.2.2)]))=true)∧(([]:q0k).length+List.length book)*(64:Nat)≤(140737488355328:Nat)∧(([]++book).length+[(g.1,x,g.2.2)].length)*(64:Nat)≤(140737488355328:Nat)∧(q0c (e.lang,e.ws)∧q0h e.c∧q15 ([]++book++[(g.1,x,g.2.2)]))∧(!e.proper ([]++book++[(g.1,x,g.2.2)]))=true)∧(([]:q0k).length+List.length book)*(64:Nat)≤(140737488355328:Nat)∧(([]++book).length+[(g.1,x,g.2.2)].length)*(64:Nat)≤(140737488355328:Nat)∧(q0c (e.lang,e.ws)∧q0h e.c∧q15 ([]++book++[(g.1,x,g.2.2)]))∧(!e.proper ([]++book++[(g.1,x,g.2.2)]))=true:=by
 delta q2w q60 q8c q3v qaw qcw qgh qg0
 simp only [true_and,and_true,eq_self,and_self,exists_const,forall_const,List.nil_append,List.length_nil,List.length_singleton]
 refine bifP (fun _=>trivial) fun hf=>bifP (fun _=>trivial) fun hf2=>bifP (fun _=>trivial) fun hx=>?_
 have hf:=q1m hf
 have hf2:=q1m hf2
 have hx:x.length≤8:=by have:=of_decide_eq_false hx; omega
 obtain ⟨hW,hC,hB,hm,hw⟩:=q61 hf
 obtain ⟨_,_,hB2,_,_⟩:=q61 hf2
 have hw:e.ws.length≤8:=hw
 have hg:=hB2 g (List.mem_singleton.2 rfl)
 have hLB:=q9t hB hm (by omega)
 have hbl:book.length≤8:=by omega
 have hLB2:∀ c:List Int,c.length≤8→q15 (book++[Cod.q1b g c]):=fun c hc=>⟨by rw [List.length_append,List.length_singleton]; omega,fun o ho=>by
  rcases List.mem_append.1 ho with ho | ho
  ·have:=hB o ho; omega
  ·rw [List.mem_singleton.1 ho]
   exact ⟨by show g.1.length≤_; omega,by show c.length≤_; omega⟩⟩
 refine ⟨⟨by omega,by omega,by omega⟩,bifP (fun _=>trivial) fun _=>⟨⟨hW,hC,hLB,by omega,by omega⟩,?_⟩⟩
 have noGe:(Cod.noG==Cod.noG)=true:=by decide
 rcases Cod.give_cases (e:=e) (book:=book) (g:=g) (size:=size) (by omega) with hr | hr | ⟨hok,hr⟩
 ·rw [hr]; exact ⟨Nat.zero_le _,noGe⟩
 ·rw [hr]; exact ⟨Nat.zero_le _,noGe⟩
 obtain ⟨o1,⟨o2,o3⟩,o4,o5,o6,o7⟩:=hok
 have hok:Cod.GiveOk e book g size:=⟨o1,⟨o2,o3⟩,o4,o5,o6,o7⟩
 unfold q1x
 rw [o1]
 have fin:∀ m:Nat,(∀ j,j<m→e.takes book (Cod.q1b g (Cod.dig e.ws.length size.toNat j))=false)→(x.length:Int)=size→(Cod.inB e.ws.length x=true→∃ j,j<m∧x=Cod.dig e.ws.length x.length j) →
   (0+book.length)*64≤140737488355328∧(book.length+1)*64≤140737488355328∧(q0c (e.lang,e.ws)∧q0h e.c∧q15 (book++[(g.1,x,g.2.2)]))∧(!e.proper (book++[(g.1,x,g.2.2)]))=true:=fun m h1 h2 h3=>by
  have es:size.toNat=x.length:=by omega
  rw [es] at h1
  refine ⟨by omega,by omega,⟨hW,hC,hLB2 x hx⟩,?_⟩
  rw [show e.proper (book++[(g.1,x,g.2.2)])=false from Cod.give_least h1 h3]; rfl
 rcases hr with ⟨hr,hall⟩ | ⟨i,hi,hr,ht,hall⟩
 ·rw [hr]
  dsimp only
  refine ⟨⟨⟨hW,hC,hLB⟩,⟨hf,hf2,rfl,.inr rfl⟩⟩,fun _=>⟨⟨hf,hf2,rfl,.inr rfl⟩,fun _=>⟨bifP (fun _=>trivial) fun hxs=>⟨⟨hf,hf2,rfl,.inr rfl⟩,by simpa using hxs,fun h=>absurd h (by decide)⟩,fun ⟨_,hxs,_⟩=>fin _ hall hxs fun hin=>?_⟩⟩⟩
  obtain ⟨j,hj,he⟩:=Cod.in_dig hin
  exact ⟨j,by rw [show size.toNat=x.length by omega]; exact hj,he.symm⟩
 ·rw [hr]
  have hdl:(Cod.dig e.ws.length size.toNat i).length=size.toNat:=Cod.qdu ..
  have hsame:((Cod.q1b g (Cod.dig e.ws.length size.toNat i)).1,([]:List Int),(Cod.q1b g (Cod.dig e.ws.length size.toNat i)).2.2)=g:=by
   rw [← o4]; rfl
  dsimp only
  rw [hsame,Cod.give_proper hok (by omega) ht]
  refine ⟨⟨⟨hW,hC,hLB⟩,⟨hf,hf2,rfl,.inl rfl⟩⟩,fun _=>⟨bifP (fun _=>bifP (fun h=>?_) fun _=>⟨Nat.zero_le _,bifP (fun h=>by simp at h) fun _=>⟨by omega,by omega,⟨hW,hC,hLB2 _ (by omega)⟩,hf,hf2,rfl,.inl rfl⟩⟩) (fun h=>absurd h (by decide)),fun _=>⟨bifP (fun _=>trivial) fun hxs=>bifP (fun _=>⟨by omega,bifP (fun _=>trivial) fun hls=>⟨⟨hf,hf2,rfl,.inl rfl⟩,by simpa using hxs,fun _=>q1m hls⟩⟩) (fun h=>absurd h (by decide)),fun ⟨_,hxs,hls⟩=>fin i hall hxs fun hin=>?_⟩⟩⟩
  ·have h:((Cod.dig e.ws.length size.toNat i).length:Int)≠size:=by simpa [Cod.q1b] using h
   omega
  ·have hls:=hls rfl
   unfold Cod.q5h at hls
   have es:size.toNat=x.length:=by omega
   rw [es] at hls hi
   exact Cod.less_dig hin rfl hi (of_decide_eq_true hls)
theorem qma:∀ c∈consGives,c.Holds Tryz.prog:=all_cons q5s (all_cons q4q (all_cons qir (all_cons qev (all_cons q6g (all_cons qlp (all_cons qkr all_nil))))))
set_option maxRecDepth 100000 in
theorem gives_holds:cGives.Holds Tryz.prog:=by
 refine q1n (cons:=consGives) Tryz.func9 (by kernel_rfl) (by kernel_rfl) mixed (by kernel_rfl) qma (fun p=>anGives ⟨p.1.1,p.1.2,p.2.1⟩ p.2.2.1 p.2.2.2.1 p.2.2.2.2.1 p.2.2.2.2.2) fun p hp=>?_
 obtain ⟨⟨lang,ws⟩,c,book,g,size,x⟩:=p
 refine cast ?_ (gives_vc ⟨lang,ws,c⟩ book g size x hp)
 kernel_rfl
end Go.Proofs.YtfecgebhoondjaaGreatDoor

/-
  CodeBooks.
-/
import Derived.Test.YtfecgebhoondjaaGreatDoorPT
set_option linter.unusedVariables false
namespace Go.Proofs.YtfecgebhoondjaaGreatDoor
open Go.RowKit
open R
set_option maxRecDepth 100000 in
theorem books_vc (e:Cod.Ear) (book:q0k) (g:Cod.Giv) (size raw:Int) (h:cBooks.pre ((e.lang,e.ws),e.c,book,g,size,raw)) :
  True∧True∧bif !q2r (e.lang,e.ws) e.c book (8:Int) then true=true else True∧bif !q2r (e.lang,e.ws) e.c [g] (8:Int) then true=true else (e.ws.length≤(1000000:Nat)∧(1
  : Int)≤(600:Int)∧(600:Int)≤(1000:Int))∧bif decide ((600:Int)<q4b (e.ws.length:Int) (600:Int) (min size.toNat (6:Nat)) (1:Int)) then true=true else
  ((-9223372036854775808:Int)≤(↑(List.length book):Int)-(1:Int)∧(↑(List.length book):Int)-(1:Int)≤(9223372036854775807:Int))∧(∃ (p':Nat),p'≤List.length book ∧
  (True∧(↑(List.length book):Int)-(1:Int)=(↑(List.length book):Int)-(1:Int)-(p':Int)∧e.c=e.c∧book=book∧size=size∧raw=raw∧True∧True∧true=true ∧
  True)∧((e.lang=e.lang∧e.ws=e.ws∧True)∧(g.1=g.1∧g.2.1=g.2.1∧g.2.2.1=g.2.2.1∧g.2.2.2.1=g.2.2.2.1∧g.2.2.2.2=g.2.2.2.2∧True)∧True)∧(List.take p' (List.reverse
  book)=[]∧True)∧True∧True∧True∧True∧True∧True∧True)∧∀ (p:Nat),p≤List.length book→bif decide ((0:Int)≤(↑(List.length book):Int)-(1:Int)-(p:Int)) then
  ((0:Int)≤(↑(List.length book):Int)-(1:Int)-(p:Int)∧(↑(List.length book):Int)-(1:Int)-(p:Int)<(↑(List.length book):Int))∧((List.take p (List.reverse
  book)).length+[List.getD book ((↑(List.length book):Int)-(1:Int)-(p:Int)).toNat Cod.noG].length)*(64:Nat)≤(140737488355328:Nat)∧((-9223372036854775808:Int) ≤
  (↑(List.length book):Int)-(1:Int)-(p:Int)-(1:Int)∧(↑(List.length book):Int)-(1:Int)-(p:Int)-(1:Int)≤(9223372036854775807:Int))∧∃ (p':Nat),p' ≤
  List.length book∧List.length book-p'<List.length book-p∧(True∧(↑(List.length book):Int)-(1:Int)-(p:Int)-(1:Int)=(↑(List.length book):Int)-(1:Int)-(↑p' :
  Int)∧e.c=e.c∧book=book∧size=size∧raw=raw∧True∧True∧true=true∧True)∧((e.lang=e.lang∧e.ws=e.ws∧True)∧(g.1=g.1∧g.2.1=g.2.1∧g.2.2.1=g.2.2.1 ∧
  g.2.2.2.1=g.2.2.2.1∧g.2.2.2.2=g.2.2.2.2∧True)∧True)∧(List.take p (List.reverse book)++[List.getD book ((↑(List.length book):Int)-(1:Int)-(p:Int)).toNat Cod.noG] =
  List.take p' (List.reverse book)∧True)∧True∧True∧True∧True∧True∧True∧True else (q0c (e.lang,e.ws)∧q0h e.c∧q15 book)∧(q0c (e.lang,e.ws)∧q0h e.c∧q15
  book∧g.1.length≤(1000:Nat)∧g.2.1.length≤(1000000:Nat))∧(q0c (e.lang,e.ws)∧q0h e.c∧q15 (List.take p (List.reverse book))∧g.1.length≤(1000:Nat)∧g.2.1.length ≤
  (1000000:Nat))∧(q0c (e.lang,e.ws)∧q0h e.c∧q15 (List.take p (List.reverse book)))∧bif !e.proper book==e.proper (List.take p (List.reverse book)) then false=true else bif (e.q06 book g size).2 != (e.q06
  (List.take p (List.reverse book)) g size).2 then false=true else (e.q06 book g size).1.2.1.length≤(1000000000000000:Nat)∧bif !(e.q06 book g size).1==(e.q06 (List.take p (List.reverse book)) g size).1 then false=true else bif !e.proper book then true=true else bif (↑(List.length book):Int)==(0:Int) then true=true else (↑(List.length book):Int)≠(0:Int)∧((0:Int)≤(0
  : Int)∧(0:Int)≤(IntKind.i64.wrap raw).tmod (↑(List.length book):Int)∧(IntKind.i64.wrap raw).tmod (↑(List.length book):Int)≤(↑(List.length book):Int))∧((-9223372036854775808
  : Int)≤(IntKind.i64.wrap raw).tmod (↑(List.length book):Int)+(1:Int)∧(IntKind.i64.wrap raw).tmod (↑(List.length book):Int)+(1:Int)≤(9223372036854775807:Int))∧((0:Int)
  ≤ (IntKind.i64.wrap raw).tmod (↑(List.length book):Int)+(1:Int)∧(IntKind.i64.wrap raw).tmod (↑(List.length book):Int)+(1:Int)≤(↑(List.length book):Int)∧(↑(List.length
  book):Int)≤(↑(List.length book):Int))∧(([]:q0k).length+(List.drop (Int.toNat (0:Int)) (List.take ((IntKind.i64.wrap raw).tmod (↑(List.length book):Int)).toNat book)).length)*(64 :
  Nat)≤(140737488355328:Nat)∧(([]++List.drop (Int.toNat (0:Int)) (List.take ((IntKind.i64.wrap raw).tmod (↑(List.length book):Int)).toNat book)).length+(List.drop
  ((IntKind.i64.wrap raw).tmod (↑(List.length book):Int)+(1:Int)).toNat (List.take (↑(List.length book):Int).toNat book)).length)*(64:Nat)≤(140737488355328:Nat)∧(q0c
  (e.lang,e.ws)∧q0h e.c∧q15 ([]++List.drop (Int.toNat (0:Int)) (List.take ((IntKind.i64.wrap raw).tmod (↑(List.length book):Int)).toNat book)++List.drop ((IntKind.i64.wrap
  raw).tmod (↑(List.length book):Int)+(1:Int)).toNat (List.take (↑(List.length book):Int).toNat book)))∧e.proper ([]++List.drop (Int.toNat (0
  : Int)) (List.take ((IntKind.i64.wrap raw).tmod (↑(List.length book):Int)).toNat book)++List.drop ((IntKind.i64.wrap raw).tmod (↑(List.length book):Int)+(1:Int)).toNat (List.take
  (↑(List.length book):Int).toNat book))=true
  := by
 obtain ⟨_,_,_,_,_,hraw⟩:=h
 simp only [true_and,and_true,eq_self]
 refine bifP (fun _=>trivial) fun hf=>bifP (fun _=>trivial) fun hf2=>?_
 obtain ⟨hW,hC,hB,hm,hw⟩:=q61 (q1m hf)
 obtain ⟨_,_,hB2,_,_⟩:=q61 (q1m hf2)
 have hw:e.ws.length≤8:=hw
 have hg:=hB2 g (List.mem_singleton.2 rfl)
 have hLB:=q9t hB hm (by omega)
 have hLR:q15 book.reverse:=q9t (fun x hx=>hB x (List.mem_reverse.1 hx)) (by rw [List.length_reverse]; exact hm) (by omega)
 refine ⟨⟨by omega,by omega,by omega⟩,bifP (fun _=>trivial) fun _=>⟨⟨by omega,by omega⟩,⟨0,Nat.zero_le _,by omega,rfl⟩,?_⟩⟩
 intro p hp
 refine bifP (fun hb=>?_) fun hb=>?_
 ·have hb:=of_decide_eq_true hb
  have hti:((book.length:Int)-1-p).toNat=book.length-1-p:=by omega
  rw [hti]
  refine ⟨⟨by omega,by omega⟩,?_,⟨by omega,by omega⟩,p+1,by omega,by omega,by omega,?_⟩
  ·rw [List.length_take,List.length_reverse,List.length_singleton]; omega
  ·have hl:p<book.reverse.length:=by rw [List.length_reverse]; omega
   rw [Snd.q1l book.reverse Cod.noG p hl,List.getD_eq_getElem?_getD (l:=book.reverse),List.getElem?_reverse (by omega),← List.getD_eq_getElem?_getD]
 have hb:=of_decide_eq_false hb
 have hpe:p=book.length:=by omega
 have hrev:List.take p book.reverse=book.reverse:=List.take_of_length_le (by rw [List.length_reverse]; omega)
 rw [hrev,Cod.q9m,Cod.give_reverse]
 refine ⟨⟨hW,hC,hLB⟩,⟨hW,hC,hLB,by omega,by omega⟩,⟨hW,hC,hLR,by omega,by omega⟩,⟨hW,hC,hLR⟩,?_⟩
 simp only [beq_self_eq_true,bne_self_eq_false,Bool.not_true,cond_false]
 refine ⟨?_,bifP (fun _=>trivial) fun hpr=>bifP (fun _=>trivial) fun hne=>?_⟩
 ·have:(e.q06 book g size).1.2.1.length≤1000000000000000:=give_len hg.1 size
  exact this
 have hpr:=q1m hpr
 have hpos:0<book.length:=by have:=beq_eq_false_iff_ne.1 hne; omega
 obtain ⟨k,ek,hk⟩:=idx41 hraw hpos
 have hti:((k:Int)+1).toNat=k+1:=by omega
 have ht0:Int.toNat 0=0:=rfl
 simp only [ek,hti,ht0,Int.toNat_natCast,List.drop_zero,List.nil_append,List.take_length]
 have hmem:∀ x∈book.take k++book.drop (k+1),x∈book:=fun x hx=>by
  rcases List.mem_append.1 hx with h | h
  ·exact List.mem_of_mem_take h
  ·exact List.mem_of_mem_drop h
 have hlen:(book.take k++book.drop (k+1)).length≤book.length:=by rw [List.length_append,List.length_take,List.length_drop]; omega
 refine ⟨by omega,⟨by omega,by omega,by omega⟩,⟨by omega,by omega⟩,⟨by omega,by omega,by omega⟩,?_,?_,⟨hW,hC,q9t (fun x hx=>hB x (hmem x hx)) (m:=8) (by omega) (by omega)⟩,Cod.proper_erase hpr k⟩
 ·simp only [List.length_take,List.length_nil]; omega
 ·simp only [List.length_take,List.length_drop]; omega
theorem qlz:∀ c∈consBooks,c.Holds Tryz.prog:=all_cons q5s (all_cons q4q (all_cons qir (all_cons qev (all_cons q6g (all_cons qlp all_nil)))))
set_option maxRecDepth 100000 in
theorem books_holds:cBooks.Holds Tryz.prog:=by
 refine q1n (cons:=consBooks) Tryz.func12 (by kernel_rfl) (by kernel_rfl) mixed (by kernel_rfl) qlz (fun p=>anBooks p.2.2.1) fun p hp=>?_
 obtain ⟨⟨lang,ws⟩,c,book,g,size,raw⟩:=p
 refine cast ?_ (books_vc ⟨lang,ws,c⟩ book g size raw hp)
 kernel_rfl
end Go.Proofs.YtfecgebhoondjaaGreatDoor

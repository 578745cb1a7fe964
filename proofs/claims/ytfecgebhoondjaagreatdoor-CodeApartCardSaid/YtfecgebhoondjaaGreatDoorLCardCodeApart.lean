/-
  CodeApart.
-/
import Derived.Test.YtfecgebhoondjaaGreatDoorPT
set_option linter.unusedVariables false
namespace Go.Proofs.YtfecgebhoondjaaGreatDoor
open Go.RowKit
open R
set_option maxRecDepth 100000 in
theorem apart_vc (e:Cod.Ear) (book:q0k) (i k:Int) (h:cApart.pre ((e.lang,e.ws),e.c,book,i,k)) :
  True∧True∧bif !q2r (e.lang,e.ws) e.c book (8:Int) then true=true else (q0c (e.lang,e.ws)∧q0h e.c∧q15 book)∧bif !e.proper book
  then true=true else bif decide ((↑(List.length book):Int)<(2:Int)) then true=true else (↑(List.length book):Int)≠(0:Int)∧(↑(List.length book):Int)≠(0:Int)∧bif
  (IntKind.i64.wrap i).tmod (↑(List.length book):Int)==(IntKind.i64.wrap k).tmod (↑(List.length book):Int) then true=true else ((0:Int)≤(IntKind.i64.wrap i).tmod (↑(List.length
  book):Int)∧(IntKind.i64.wrap i).tmod (↑(List.length book):Int)<(↑(List.length book):Int))∧(q0c (e.lang,e.ws)∧q0h e.c∧(List.getD book ((IntKind.i64.wrap i).tmod
  (↑(List.length book):Int)).toNat Cod.noG).2.1.length≤(1000000:Nat))∧bif (e.q05 (List.getD book ((IntKind.i64.wrap i).tmod (↑(List.length
  book):Int)).toNat Cod.noG).2.1).2==(0:Int) then ((0:Int)≤(IntKind.i64.wrap k).tmod (↑(List.length book):Int)∧(IntKind.i64.wrap k).tmod (↑(List.length book):Int) <
  (↑(List.length book):Int))∧q5j (e.q05 (List.getD book ((IntKind.i64.wrap i).tmod (↑(List.length book):Int)).toNat Cod.noG).2.1).1∧bif !(e.q05 (List.getD book ((IntKind.i64.wrap i).tmod (↑(List.length book):Int)).toNat Cod.noG).2.1).1.any fun (y:List Int)=>y==(List.getD book
  ((IntKind.i64.wrap k).tmod (↑(List.length book):Int)).toNat Cod.noG).2.1 then ((0:Int)≤(IntKind.i64.wrap i).tmod (↑(List.length book):Int)∧(IntKind.i64.wrap i).tmod (↑(List.length
  book):Int)<(↑(List.length book):Int))∧((0:Int)≤(IntKind.i64.wrap k).tmod (↑(List.length book):Int)∧(IntKind.i64.wrap k).tmod (↑(List.length book):Int)<(↑(List.length
  book):Int))∧(List.getD book ((IntKind.i64.wrap i).tmod (↑(List.length book):Int)).toNat Cod.noG).2.1.length≤(1000000000000000:Nat)∧bif !(List.getD book ((IntKind.i64.wrap i).tmod
  (↑(List.length book):Int)).toNat Cod.noG).2.1==(List.getD book ((IntKind.i64.wrap k).tmod (↑(List.length book):Int)).toNat Cod.noG).2.1 then ((0:Int)≤(IntKind.i64.wrap i).tmod
  (↑(List.length book):Int)∧(IntKind.i64.wrap i).tmod (↑(List.length book):Int)<(↑(List.length book):Int))∧((0:Int)≤(IntKind.i64.wrap k).tmod (↑(List.length book):Int) ∧
  (IntKind.i64.wrap k).tmod (↑(List.length book):Int)<(↑(List.length book):Int))∧(!(List.getD book ((IntKind.i64.wrap i).tmod (↑(List.length book):Int)).toNat Cod.noG).1 ==
  (List.getD book ((IntKind.i64.wrap k).tmod (↑(List.length book):Int)).toNat Cod.noG).1)=true else false=true else false=true else false=true
  := by
 simp only [true_and]
 obtain ⟨_,_,_,hi,hk⟩:=h
 refine bifP (fun _=>trivial) fun hf=>?_
 obtain ⟨hW,hC,hB,hm,hw⟩:=q61 (q1m hf)
 have hw:e.ws.length≤8:=hw
 refine ⟨⟨hW,hC,q9t hB hm (by omega)⟩,bifP (fun _=>trivial) fun hp=>bifP (fun _=>trivial) fun h2=>?_⟩
 have hp:=q1m hp
 have h2:2≤book.length:=by have:=of_decide_eq_false h2; omega
 obtain ⟨i,ei,hi⟩:=idx41 hi (n:=book.length) (by omega)
 obtain ⟨k,ek,hk⟩:=idx41 hk (n:=book.length) (by omega)
 simp only [ei,ek,Int.toNat_natCast]
 refine ⟨by omega,by omega,bifP (fun _=>trivial) fun hik=>?_⟩
 have hik:i≠k:=fun h=>by rw [h,beq_self_eq_true] at hik; cases hik
 obtain ⟨two1,two2⟩:=Cod.qku hp Cod.noG hi hk hik
 obtain ⟨ap1,ap2,_⟩:=Cod.q5y.1 two2
 have hgi:=hB _ (Snd.q11 book Cod.noG i hi)
 rw [qcn hp hi]
 dsimp only
 rw [any_eq_false (fun h=>ap2 (Cod.q3f.1 h)),beq_eq_false_iff_ne.2 ap1,beq_eq_false_iff_ne.2 two1]
 exact ⟨⟨by omega,by omega⟩,⟨hW,hC,by omega⟩,⟨by omega,by omega⟩,q9h hw hgi.1,⟨by omega,by omega⟩,⟨by omega,by omega⟩,by omega,⟨by omega,by omega⟩,⟨by omega,by omega⟩,rfl⟩
theorem qmc:∀ c∈consApart,c.Holds Tryz.prog:=all_cons q5s (all_cons q4q (all_cons q6g (all_cons q9f (all_cons qhb (all_cons q85 all_nil)))))
set_option maxRecDepth 100000 in
theorem apart_holds:cApart.Holds Tryz.prog:=by
 refine q1n (cons:=consApart) Tryz.func10 (by kernel_rfl) (by kernel_rfl) mixed (by kernel_rfl) qmc (fun _=>[]) fun p hp=>?_
 obtain ⟨⟨lang,ws⟩,c,book,i,k⟩:=p
 refine cast ?_ (apart_vc ⟨lang,ws,c⟩ book i k hp)
 kernel_rfl
end Go.Proofs.YtfecgebhoondjaaGreatDoor

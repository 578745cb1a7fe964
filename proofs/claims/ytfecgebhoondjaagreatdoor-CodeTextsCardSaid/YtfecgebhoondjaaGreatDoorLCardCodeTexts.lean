/-
  CodeTexts.
-/
import Derived.Test.YtfecgebhoondjaaGreatDoorPT
set_option linter.unusedVariables false
namespace Go.Proofs.YtfecgebhoondjaaGreatDoor
open Go.RowKit
open R
set_option maxRecDepth 100000 in
theorem texts_vc (lang:List UInt8) (ws:List (List UInt8)) (x y:List Int) :
  True∧True∧bif !q2s (lang,ws) [] [] (8:Int) then true=true else bif decide ((8:Int)<(x.length:Int)) then true=true else bif decide ((8:Int)<(y.length:Int)) then
  true=true else (q0d (lang,ws)∧x.length≤(1000000:Nat))∧(q0d (lang,ws)∧y.length≤(1000000:Nat))∧(q0d (lang,ws)∧x.length≤(1000000:Nat))∧bif !((Cod.q3j lang
  ws x).2==(0:Int))==Cod.q0p lang ws x then false=true else bif (Cod.q3j lang ws x).2 != (0:Int) then bif (Cod.q3j lang ws x).2 != (1:Int) then false=true else bif
  !(Cod.q3j lang ws x).1==[] then false=true else bif (Cod.q3j lang ws x).2 != (0:Int) then true=true else bif (Cod.q3j lang ws y).2 != (0:Int) then true=true else x.length ≤
  (1000000000000000:Nat)∧(((Cod.q3j lang ws x).1==(Cod.q3j lang ws y).1)==(x==y))=true else bif (Cod.q3j lang ws x).2 != (0:Int) then true=true else bif (Cod.q3j lang
  ws y).2 != (0:Int) then true=true else x.length≤(1000000000000000:Nat)∧(((Cod.q3j lang ws x).1==(Cod.q3j lang ws y).1)==(x==y))=true
  := by
 simp only [true_and,and_true]
 refine bifP (fun _=>trivial) fun hf=>bifP (fun _=>trivial) fun hx=>bifP (fun _=>trivial) fun hy=>?_
 obtain ⟨hW,_⟩:=q62 (q1m hf)
 have hx:x.length≤8:=by have:=of_decide_eq_false hx; omega
 have hy:y.length≤8:=by have:=of_decide_eq_false hy; omega
 refine ⟨⟨hW,by omega⟩,⟨hW,by omega⟩,⟨hW,by omega⟩,?_⟩
 cases hcx:Cod.q0p lang ws x <;> cases hcy:Cod.q0p lang ws y
 ·simp [Cod.q3j,hcx,hcy]
 ·simp [Cod.q3j,hcx,hcy]
 ·simp [Cod.q3j,hcx,hcy]
 ·have h:=Cod.text_inj hcx hcy
  simp only [Cod.q3j,hcx,hcy,if_true,beq_self_eq_true,Bool.not_true,cond_false,bne_self_eq_false,h]
  exact ⟨by omega,trivial⟩
theorem qm5:∀ c∈consTexts,c.Holds Tryz.prog:=all_cons q5n (all_cons q4q (all_cons qg7 (all_cons q4u (all_cons q86 all_nil))))
set_option maxRecDepth 100000 in
theorem texts_holds:cTexts.Holds Tryz.prog:=by
 refine q1o (cons:=consTexts) Tryz.func13 (by kernel_rfl) (by kernel_rfl) mixed (by kernel_rfl) qm5 (fun _=>[]) fun p hp=>?_
 obtain ⟨⟨lang,ws⟩,x,y⟩:=p
 refine cast ?_ (texts_vc lang ws x y)
 kernel_rfl
end Go.Proofs.YtfecgebhoondjaaGreatDoor

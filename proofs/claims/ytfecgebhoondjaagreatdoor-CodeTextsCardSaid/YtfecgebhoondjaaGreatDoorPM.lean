/-
  Several texts in one: SoB, CoB, CoC, SoC, LexScan, LexGap, IndexAny, LexNext.
-/
import Derived.Test.YtfecgebhoondjaaGreatDoorPL
import Derived.Laws.CopyOwn
import Derived.Laws.RangeAny
import Derived.Test.YtfecgebhoondjaaGreatDoorPB
import Derived.WalkSmall
import Derived.Laws.Runes
import Derived.Lib.OthersKept
import Derived.Lib.SmallJoins
set_option linter.unusedVariables false
namespace Go.Proofs.YtfecgebhoondjaaGreatDoor
open Go.RowKit
open R
set_option maxRecDepth 100000 in
theorem fewC_vc (c:CfP) (h:cFewC.pre c) :
  (∃ (p':Nat),(p'≤(30:Nat)∧p'≤List.length c∧((List.take p' c).all fun (x:List UInt8×List UInt8)=>decide (x.fst.length≤(100:Nat))&&decide (x.snd.length≤(100:Nat)))
  = true)∧((0:Int)=(p':Int)∧c=c∧True)∧True∧True∧True∧True∧True∧True∧True∧True∧True)∧∀ (p:Nat),p≤(30:Nat)∧p≤List.length c∧((List.take p c).all
  fun (x:List UInt8×List UInt8)=>decide (x.fst.length≤(100:Nat))&&decide (x.snd.length≤(100:Nat)))=true→bif decide ((p:Int)<(↑(List.length c):Int)) then bif decide
  ((p:Int)<(30:Int)) then ((0:Int)≤(p:Int)∧(p:Int)<(↑(List.length c):Int))∧bif decide ((100:Int)<(↑(List.getD c (p:Int).toNat ([],[])).fst.length:Int)) then
  false=q7e c else ((0:Int)≤(p:Int)∧(p:Int)<(↑(List.length c):Int))∧bif decide ((100:Int)<(↑(List.getD c (p:Int).toNat ([],[])).snd.length:Int)) then false =
  q7e c else ((-9223372036854775808:Int)≤(p:Int)+(1:Int)∧(p:Int)+(1:Int)≤(9223372036854775807:Int))∧∃ (p':Nat),(p'≤(30:Nat)∧p'≤List.length c ∧
  ((List.take p' c).all fun (x:List UInt8×List UInt8)=>decide (x.fst.length≤(100:Nat))&&decide (x.snd.length≤(100:Nat)))=true)∧List.length c-p'<List.length c-p∧((↑p
  : Int)+(1:Int)=(p':Int)∧c=c∧True)∧True∧True∧True∧True∧True∧True∧True∧True∧True else decide ((↑(List.length c):Int)≤(30:Int))=q7e c else decide
  ((↑(List.length c):Int)≤(30:Int))=q7e c
  := by
 simp only [and_true]
 refine ⟨⟨0,⟨Nat.zero_le _,Nat.zero_le _,rfl⟩,rfl⟩,?_⟩
 rintro p ⟨h30,hp,ha⟩
 have hti:((p:Int).toNat)=p:=rfl
 simp only [hti]
 have no:p<c.length→(decide ((c.getD p ([],[])).1.length≤100)&&decide ((c.getD p ([],[])).2.length≤100))=false→false=q7e c:=fun hl hf=>by
  unfold q7e
  rw [Snd.q9e c ([],[]) _ p hl hf,Bool.and_false]
 refine bifP (fun hb=>?_) fun hb=>?_
 ·have hlt:p<c.length:=by have:=of_decide_eq_true hb; omega
  refine bifP (fun hb=>?_) fun hb=>?_
  ·have h3:p<30:=by have:=of_decide_eq_true hb; omega
   refine ⟨⟨by omega,by omega⟩,bifP (fun hb=>no hlt ?_) fun h1=>⟨⟨by omega,by omega⟩,bifP (fun hb=>no hlt ?_) fun h2=>⟨⟨by omega,by omega⟩,p+1,⟨by omega,by omega,?_⟩,by omega,by omega⟩⟩⟩
   ·rw [decide_eq_false (by have:=of_decide_eq_true hb; omega)]; rfl
   ·rw [decide_eq_false (p:=(c.getD p ([],[])).2.length≤100) (by have:=of_decide_eq_true hb; omega),Bool.and_false]
   ·rw [Snd.q6a c ([],[]) _ p hlt,ha,decide_eq_true (by have:=of_decide_eq_false h1; omega),decide_eq_true (by have:=of_decide_eq_false h2; omega)]; rfl
  ·have h3:¬ c.length≤30:=by have:=of_decide_eq_false hb; omega
   unfold q7e
   rw [decide_eq_false h3,decide_eq_false (by omega)]; rfl
 ·have hle:c.length≤p:=by have:=of_decide_eq_false hb; omega
  rw [Snd.qbz c _ p hle] at ha
  unfold q7e
  rw [ha,Bool.and_true]
  exact decide_eq_decide.2 (by omega)
set_option maxRecDepth 100000 in
theorem fewW_vc (lang:List UInt8) (ws:List (List UInt8)) (h:cFewW.pre (lang,ws)) :
  (∃ (p':Nat),(p'≤(40:Nat)∧p'≤ws.length∧((List.take p' ws).all fun (s:List UInt8)=>decide (s.length≤(100:Nat)))=true)∧((0:Int)=(p':Int)∧True∧True)∧((lang
  = lang∧ws=ws∧True)∧True)∧True∧True∧True∧True∧True∧True∧True∧True)∧∀ (p:Nat),p≤(40:Nat)∧p≤ws.length∧((List.take p ws).all fun (s:List UInt8)=>decide
  (s.length≤(100:Nat)))=true→bif decide ((p:Int)<(ws.length:Int)) then bif decide ((p:Int)<(40:Int)) then ((0:Int)≤(p:Int)∧(p:Int)<(ws.length:Int)) ∧
  bif decide ((100:Int)<(↑(ws.getD (p:Int).toNat []).length:Int)) then false=q83 (lang,ws) else ((-9223372036854775808:Int)≤(p:Int)+(1:Int)∧(p:Int)+(1:Int) ≤
  (9223372036854775807:Int))∧∃ (p':Nat),(p'≤(40:Nat)∧p'≤ws.length∧((List.take p' ws).all fun (s:List UInt8)=>decide (s.length≤(100:Nat)))=true)∧ws.length-p' <
  ws.length-p∧((p:Int)+(1:Int)=(p':Int)∧True∧True)∧((lang=lang∧ws=ws∧True)∧True)∧True∧True∧True∧True∧True∧True∧True∧True else bif decide
  ((ws.length:Int)≤(40:Int)) then decide ((lang.length:Int)≤(100:Int))=q83 (lang,ws) else false=q83 (lang,ws) else bif decide ((ws.length:Int)≤(40:Int)) then
  decide ((lang.length:Int)≤(100:Int))=q83 (lang,ws) else false=q83 (lang,ws)
  := by
 simp only [and_true]
 refine ⟨⟨0,⟨Nat.zero_le _,Nat.zero_le _,rfl⟩,rfl⟩,?_⟩
 rintro p ⟨h40,hp,ha⟩
 have hti:((p:Int).toNat)=p:=rfl
 simp only [hti]
 have fin:∀ (hle:ws.length≤p∨40<ws.length),bif decide ((ws.length:Int)≤40) then decide ((lang.length:Int)≤100)=q83 (lang,ws) else false=q83 (lang,ws):=fun hle=>by
  refine bifP (fun hb=>?_) fun hb=>?_
  ·have h1:ws.length≤40:=by have:=of_decide_eq_true hb; omega
   have hle:ws.length≤p:=by omega
   rw [Snd.qbz ws _ p hle] at ha
   show _=(decide (ws.length≤40)&&(decide (lang.length≤100)&&ws.all _))
   rw [ha,decide_eq_true h1,Bool.and_true,Bool.true_and]
   exact decide_eq_decide.2 (by omega)
  ·have h1:¬ ws.length≤40:=by have:=of_decide_eq_false hb; omega
   show _=(decide (ws.length≤40)&&(decide (lang.length≤100)&&ws.all _))
   rw [decide_eq_false h1]; rfl
 refine bifP (fun hb=>?_) fun hb=>fin (.inl (by have:=of_decide_eq_false hb; omega))
 have hlt:p<ws.length:=by have:=of_decide_eq_true hb; omega
 refine bifP (fun hb=>?_) fun hb=>fin (.inr (by have:=of_decide_eq_false hb; omega))
 have h4:p<40:=by have:=of_decide_eq_true hb; omega
 refine ⟨⟨by omega,by omega⟩,bifP (fun hb=>?_) fun h1=>⟨⟨by omega,by omega⟩,p+1,⟨by omega,by omega,?_⟩,by omega,by omega⟩⟩
 ·show _=(decide (ws.length≤40)&&(decide (lang.length≤100)&&ws.all _))
  rw [Snd.q9e ws [] _ p hlt (decide_eq_false (by have:=of_decide_eq_true hb; omega)),Bool.and_false,Bool.and_false]
 ·rw [Snd.q6a ws [] _ p hlt,ha,decide_eq_true (by have:=of_decide_eq_false h1; omega)]; rfl
abbrev qi4 (p':Nat) (ws:List (List UInt8)):Prop :=
 (p'≤ws.length∧((List.take p' ws).all fun (s:List UInt8)=>Snd.q0r s (3:Int) (8:Int))=true∧Snd.rising (List.take p' ws)=true)
set_option maxRecDepth 100000 in
theorem valid_vc (lang:List UInt8) (ws:List (List UInt8)) (h:qem.pre (lang,ws)) :
  lang.length≤(1000:Nat)∧bif (Lx.lex lang).snd.fst != (0:Int) then false=Snd.q0j lang ws else bif (↑(List.map tokP (Lx.lex lang).fst).length:Int) != (1:Int) then false=Snd.q0j lang ws else ((0:Int)≤0∧(0:Int)<(↑(List.map tokP (Lx.lex lang).fst).length:Int))∧bif ((List.map tokP (Lx.lex lang).fst).getD (Int.toNat (0:Int)) ((0:Int),(0:Int),(0:Int),[])).fst != (1:Int) then false=Snd.q0j lang ws else ((0:Int)≤0∧(0:Int)<(↑(List.map tokP (Lx.lex lang).fst).length:Int))∧bif !((List.map tokP (Lx.lex lang).fst).getD (Int.toNat (0:Int)) ((0:Int),(0:Int),(0:Int),[])).snd.snd.snd==lang then false=Snd.q0j lang ws else (∃ (p':Nat),(qi4 p' ws)∧((0:Int)=(p':Int)∧True∧ws=ws∧(ws.length:Int)=(ws.length:Int)∧True)∧((lang=lang∧ws=ws∧True)∧True)∧True∧True∧True∧True∧True∧True∧True∧True)∧∀ (p:Nat),p≤ws.length∧((List.take p ws).all fun (s:List UInt8)=>Snd.q0r s (3:Int) (8:Int))=true∧Snd.rising (List.take p ws)=true→bif decide ((p:Int)<(ws.length:Int)) then (0≤(p:Int)∧(p:Int)<(ws.length:Int))∧(ws.getD (p:Int).toNat []).length≤(1000000:Nat)∧bif !Snd.q0r (ws.getD (p:Int).toNat []) (3:Int) (8:Int) then false=Snd.q0j lang ws else bif decide (0<(p:Int)) then (zFit ((p:Int)-1))∧(0≤(p:Int)-1∧(p:Int)-1<(ws.length:Int))∧bif !Op.bytesLess (ws.getD ((p:Int)-1).toNat []) (ws.getD (p:Int).toNat []) then false=Snd.q0j lang ws else (zFit ((p:Int)+1))∧∃ (p':Nat),(qi4 p' ws)∧ws.length-p'<ws.length-p∧((p:Int)+1=(p':Int)∧True∧ws=ws∧(ws.length:Int)=(ws.length:Int)∧True)∧((lang=lang∧ws=ws∧True)∧True)∧True∧True∧True∧True∧True∧True∧True∧True else (zFit ((p:Int)+1))∧∃ (p':Nat),(qi4 p' ws)∧ws.length-p'<ws.length-p∧((p:Int)+1=(p':Int)∧True∧ws=ws∧(ws.length:Int)=(ws.length:Int)∧True)∧((lang=lang∧ws=ws∧True)∧True)∧True∧True∧True∧True∧True∧True∧True∧True else bif decide (1≤(ws.length:Int)) then decide ((ws.length:Int)≤4096)=Snd.q0j lang ws else false=Snd.q0j lang ws:=by
 delta qi4 zFit
 obtain ⟨h1000,hn,hws⟩:=h
 have h1000:lang.length≤1000:=h1000
 have hn:ws.length≤1000000:=hn
 have hyes:=Lx.lex_name lang (by omega)
 have hno:∀ (t:Lx.Tok) (e a:Int),Lx.lex lang=([t],e,a)→e=0→t.kind=1→t.text=lang→Lx.q1l lang=true:=fun t e a=>Lx.name_lex lang (by omega)
 have bad:Lx.q1l lang=false→false=Snd.q0j lang ws:=fun h=>by unfold Snd.q0j; rw [h]; rfl
 have nam:(Lx.q1l lang=true→False)→Lx.q1l lang=false:=fun h=>by cases hh:Lx.q1l lang; rfl; exact absurd hh (fun e=>h e)
 simp only [and_true]
 generalize Lx.lex lang=L at *
 obtain ⟨l,er,a⟩:=L
 refine ⟨h1000,bifP (fun hb=>bad (nam fun hh=>?_)) fun he=>bifP (fun hb=>bad (nam fun hh=>?_)) fun hl=>?_⟩
 ·have:=hyes hh
  simp at this
  exact (bne_iff_ne.1 hb) this.2.1
 ·have:=hyes hh
  simp at this
  rw [this.1] at hb
  simp at hb
 obtain ⟨t,rfl⟩:∃ t,l=[t]:=by
  have:((l.map tokP).length:Int)=1:=bne_eq_false_iff_eq.1 hl
  rw [List.length_map] at this
  exact List.length_eq_one_iff.1 (by omega)
 have he:er=0:=bne_eq_false_iff_eq.1 he
 refine ⟨⟨by omega,by show (0:Int)<1; omega⟩,bifP (fun hb=>bad (nam fun hh=>?_)) fun hk=>⟨⟨by omega,by show (0:Int)<1; omega⟩,bifP (fun hb=>bad (nam fun hh=>?_)) fun ht=>?_⟩⟩
 ·have:=hyes hh
  simp at this
  have hb:t.kind≠1:=bne_iff_ne.1 hb
  exact hb (by rw [this.1])
 ·have:=hyes hh
  simp at this
  have hb:(!(t.text==lang))=true:=hb
  have hb:(t.text==lang)=false:=by simpa using hb
  exact (beq_eq_false_iff_ne.1 hb) (by rw [this.1])
 have hk:t.kind=1:=bne_eq_false_iff_eq.1 hk
 have ht:t.text=lang:=by
  have:(!(t.text==lang))=false:=ht
  simpa using this
 have hname:=hno t er a rfl he hk ht
 have vno:(1≤ws.length→ws.length≤4096→(ws.all fun s=>Snd.q0r s 3 8)=true→Snd.rising ws=true→False)→false=Snd.q0j lang ws:=fun h=>by
  symm
  unfold Snd.q0j
  rw [← Bool.not_eq_true]
  intro hh
  simp only [Bool.and_eq_true,decide_eq_true_eq] at hh
  exact h hh.2.1 hh.2.2.1 hh.2.2.2.1 hh.2.2.2.2
 refine ⟨⟨0,⟨Nat.zero_le _,rfl,rfl⟩,rfl⟩,?_⟩
 rintro p ⟨hp,ha,hr⟩
 have hti:((p:Int).toNat)=p:=rfl
 simp only [hti]
 refine bifP (fun hb=>?_) fun hb=>?_
 ·have hlt:p<ws.length:=by have:=of_decide_eq_true hb; omega
  refine ⟨⟨by omega,by omega⟩,hws _ (Snd.q11 ws [] p hlt),bifP (fun hb=>vno fun _ _ h3 _=>?_) fun h1=>?_⟩
  ·rw [Snd.q9e ws [] _ p hlt (by simpa using hb)] at h3; cases h3
  have h1:Snd.q0r (ws.getD p []) 3 8=true:=by simpa using h1
  have hall:(ws.take (p+1)).all (fun s=>Snd.q0r s 3 8)=true:=by rw [Snd.q6a ws [] _ p hlt,ha,h1]; rfl
  refine bifP (fun hb=>?_) fun hb=>?_
  ·have h0:0<p:=by have:=of_decide_eq_true hb; omega
   have hpm:((p:Int)-1).toNat=p-1:=by omega
   rw [hpm]
   refine ⟨⟨by omega,by omega⟩,⟨by omega,by omega⟩,bifP (fun hb=>vno fun _ _ _ h4=>?_) fun h2=>⟨⟨by omega,by omega⟩,p+1,⟨by omega,hall,?_⟩,by omega,by omega⟩⟩
   ·rw [Snd.rising_no ws p hlt h0 (by simpa using hb)] at h4; cases h4
   ·rw [Snd.q7x ws p hlt,hr,show Op.bytesLess (ws.getD (p-1) []) (ws.getD p [])=true by simpa using h2]; simp
  ·have h0:p=0:=by have:=of_decide_eq_false hb; omega
   refine ⟨⟨by omega,by omega⟩,p+1,⟨by omega,hall,?_⟩,by omega,by omega⟩
   rw [Snd.q7x ws p hlt,hr,h0]; rfl
 ·have hle:ws.length≤p:=by have:=of_decide_eq_false hb; omega
  rw [Snd.qbz ws _ p hle] at ha
  rw [List.take_of_length_le hle] at hr
  refine bifP (fun hb=>?_) fun hb=>vno fun h1 _ _ _=>by have:=of_decide_eq_false hb; omega
  have h1:1≤ws.length:=by have:=of_decide_eq_true hb; omega
  unfold Snd.q0j
  rw [hname,ha,hr,decide_eq_true h1,Bool.and_true,Bool.true_and,Bool.true_and,Bool.and_true]
  exact decide_eq_decide.2 (by omega)
end Go.Proofs.YtfecgebhoondjaaGreatDoor
set_option linter.unusedVariables false
namespace Go.Proofs.YtfecgebhoondjaaGreatDoor
open Go.RowKit
open R
set_option maxRecDepth 100000 in
theorem on_vc (x y:Int) :
  True∧bif decide ((0:Int)≤min x y) then True∧decide (max x y≤(32767:Int))=Cod.onB (x,y) else false=Cod.onB (x,y)
  := by
 refine ⟨trivial,bifP (fun hb=>⟨trivial,?_⟩) fun hb=>?_⟩
 ·show _=(decide (0≤min x y)&&_)
  rw [hb,Bool.true_and]
 ·show _=(decide (0≤min x y)&&_)
  rw [hb,Bool.false_and]
set_option maxRecDepth 100000 in
theorem onL_vc (l:List (Int×Int)) (h:cOnL.pre l) :
  (∃ (p':Nat),(p'≤l.length∧(List.take p' l).all Cod.onB=true)∧((0:Int)=(p':Int)∧l=l∧l=l∧(l.length:Int)=(l.length:Int)∧True)∧True∧True∧True∧True ∧
  True∧True∧True∧True∧True)∧∀ (p:Nat),p≤l.length∧(List.take p l).all Cod.onB=true→bif decide ((p:Int)<(l.length:Int)) then ((0:Int)≤(p:Int)∧(p:Int) <
  (l.length:Int))∧True∧bif !Cod.onB ((l.getD (p:Int).toNat ((0:Int),(0:Int))).fst,(l.getD (p:Int).toNat ((0:Int),(0:Int))).snd) then false=l.all Cod.onB else
  ((-9223372036854775808:Int)≤(p:Int)+(1:Int)∧(p:Int)+(1:Int)≤(9223372036854775807:Int))∧∃ (p':Nat),(p'≤l.length∧(List.take p' l).all Cod.onB=true) ∧
  l.length-p'<l.length-p∧((p:Int)+(1:Int)=(p':Int)∧l=l∧l=l∧(l.length:Int)=(l.length:Int)∧True)∧True∧True∧True∧True∧True∧True∧True∧True ∧
  True else true=l.all Cod.onB
  := by
 simp only [true_and,and_true]
 have hl:l.length≤1000:=h
 refine ⟨⟨0,⟨Nat.zero_le _,rfl⟩,rfl⟩,?_⟩
 rintro p ⟨hp,ha⟩
 have hti:((p:Int).toNat)=p:=rfl
 simp only [hti]
 refine bifP (fun hb=>?_) fun hb=>?_
 ·have hlt:p<l.length:=by have:=of_decide_eq_true hb; omega
  refine ⟨⟨by omega,by omega⟩,bifP (fun hb=>?_) fun hb=>⟨⟨by omega,by omega⟩,p+1,⟨by omega,?_⟩,by omega,rfl⟩⟩
  ·rw [Snd.q9e l ((0:Int),(0:Int)) _ p hlt (by simpa using hb)]
  ·rw [Snd.q6a l ((0:Int),(0:Int)) _ p hlt,ha,Bool.true_and]; simpa using hb
 ·have hle:l.length≤p:=by have:=of_decide_eq_false hb; omega
  rw [Snd.qbz l _ p hle] at ha
  exact ha.symm
set_option maxRecDepth 100000 in
theorem from_vc (a b c d:Int) (h:cFrom.pre ((a,b),(c,d))) :
  ((-9223372036854775808:Int)≤c-a∧c-a≤(9223372036854775807:Int))∧((-9223372036854775808:Int)≤d-b∧d-b≤(9223372036854775807:Int))∧(c-a,d-b)=(c-a,d-b)
  := by
 have h:Cod.onB (a,b)=true∧Cod.onB (c,d)=true:=h
 obtain ⟨h1,h2⟩:=h
 have h1:=Cod.on_out h1
 have h2:=Cod.on_out h2
 dsimp only at h1 h2
 exact ⟨⟨by omega,by omega⟩,⟨by omega,by omega⟩,rfl⟩
set_option maxRecDepth 100000 in
theorem along_vc (a b c d:Int) (h:cAlong.pre ((a,b),(c,d))) :
  ((-9223372036854775808:Int)≤a*c∧a*c≤(9223372036854775807:Int))∧((-9223372036854775808:Int)≤b*d∧b*d≤(9223372036854775807:Int))∧((-9223372036854775808:Int) ≤
  a*c+b*d∧a*c+b*d≤(9223372036854775807:Int))∧a*c+b*d=a*c+b*d
  := by
 have h:(-32767≤a∧a≤32767)∧(-32767≤b∧b≤32767)∧(-32767≤c∧c≤32767)∧(-32767≤d∧d≤32767):=h
 have h1:=Cod.mul_bound (a:=a) (b:=c) (by omega) (by omega) (by omega) (by omega)
 have h2:=Cod.mul_bound (a:=b) (b:=d) (by omega) (by omega) (by omega) (by omega)
 exact ⟨⟨by omega,by omega⟩,⟨by omega,by omega⟩,⟨by omega,by omega⟩,rfl⟩
set_option maxRecDepth 100000 in
theorem dist_vc (a b c d:Int) :
  [(a,b),(c,d)].length≤(1000:Nat)∧bif ![(a,b),(c,d)].all Cod.onB then (0:Int)=Cod.qaq (a,b) (c,d) else (Cod.onB (a,b)=true∧Cod.onB (c,d)=true)∧(((-32767:Int) ≤
  c-a∧c-a≤(32767:Int))∧((-32767:Int)≤d-b∧d-b≤(32767:Int))∧((-32767:Int)≤c-a∧c-a≤(32767:Int))∧(-32767:Int)≤d-b∧d-b≤(32767:Int))∧(c -
  a)*(c-a)+(d-b)*(d-b)=Cod.qaq (a,b) (c,d)
  := by
 have e:[(a,b),(c,d)].all Cod.onB=(Cod.onB (a,b)&&Cod.onB (c,d)):=by rw [List.all_cons,List.all_cons,List.all_nil,Bool.and_true]
 rw [e]
 unfold Cod.qaq Cod.sq
 refine ⟨by simp,bifP (fun hb=>?_) fun hb=>?_⟩
 ·rw [if_neg (by rw [Bool.not_eq_true'] at hb; rw [hb]; decide)]
 ·have hb:(Cod.onB (a,b)&&Cod.onB (c,d))=true:=by simpa using hb
  rw [if_pos hb]
  rw [Bool.and_eq_true] at hb
  have h1:=Cod.on_out hb.1
  have h2:=Cod.on_out hb.2
  dsimp only at h1 h2
  refine ⟨hb,⟨⟨by omega,by omega⟩,⟨by omega,by omega⟩,⟨by omega,by omega⟩,⟨by omega,by omega⟩⟩,rfl⟩
set_option maxRecDepth 100000 in
theorem nearG_vc (d1 d2:List UInt8) (c1 c2:List Int) (p1 p2:Bool) (x1 y1 x2 y2:Int) :
  bif p1 then bif p2 then True∧decide (Cod.qaq (x1,y1) (x2,y2)≤(1000000:Int))=Cod.q0q (d1,c1,p1,x1,y1) (d2,c2,p2,x2,y2) else false=Cod.q0q (d1,c1,p1,x1,y1) (d2,
  c2,p2,x2,y2) else false=Cod.q0q (d1,c1,p1,x1,y1) (d2,c2,p2,x2,y2)
  := by
 unfold Cod.q0q Cod.ptOf
 cases p1 <;> cases p2 <;> first | rfl | exact ⟨trivial,rfl⟩
set_option maxRecDepth 100000 in
theorem placed_vc (d1:List UInt8) (c1:List Int) (p1:Bool) (x1 y1:Int) :
  bif p1 then True∧bif Cod.onB (x1,y1) then true=Cod.q28 (d1,c1,p1,x1,y1) else bif !p1 then (x1==(0:Int)&&(y1==(0:Int)&&true))=Cod.q28 (d1,c1,p1,x1,y1) else
  false=Cod.q28 (d1,c1,p1,x1,y1) else bif !p1 then (x1==(0:Int)&&(y1==(0:Int)&&true))=Cod.q28 (d1,c1,p1,x1,y1) else false=Cod.q28 (d1,c1,p1,x1,y1)
  := by
 unfold Cod.q28 Cod.ptOf
 cases p1
 ·show ((x1==0)&&((y1==0)&&true))=((x1==0)&&(y1==0))
  rw [Bool.and_true]
 ·refine ⟨trivial,bifP (fun hb=>?_) fun hb=>?_⟩
  ·exact hb.symm
  ·exact hb.symm
abbrev zCoB0_0 (code:List Int) (lang:List UInt8) (ws:List (List UInt8)):Prop :=
 (True∧code=code∧false=false∧code=code∧True∧true=true∧True∧code=code∧decide ((code.length:Int)≤5)=decide ((code.length:Int)≤5)∧decide ((code.length:Int)≤5)=decide ((code.length:Int)≤5)∧true=true∧(code.length:Int)=(code.length:Int)∧code=code∧decide (3≤(code.length:Int))=decide (3≤(code.length:Int))∧decide (3≤(code.length:Int))=decide (3≤(code.length:Int))∧true=true∧(code.length:Int)=(code.length:Int)∧code=code∧Snd.q0j lang ws=Snd.q0j lang ws∧(lang=lang∧ws=ws∧True)∧True∧True∧false=false∧True∧(lang=lang∧ws=ws∧True)∧code=code∧True)
set_option maxRecDepth 100000 in
theorem cvalid_vc (lang:List UInt8) (ws:List (List UInt8)) (code:List Int) (h:q7r.pre ((lang,ws),code)) :
  q0d (lang,ws)∧bif Snd.q0j lang ws then bif decide (3≤(code.length:Int)) then bif decide ((code.length:Int)≤5) then (∃ (p':Nat),(p'≤code.length∧Cod.inB ws.length (List.take p' code)=true)∧((0:Int)=(p':Int)∧code=code∧True∧(code.length:Int)=(code.length:Int)∧True)∧((lang=lang∧ws=ws∧True)∧True)∧True∧True∧True∧(zCoB0_0 code lang ws)∧True∧True∧True∧True)∧∀ (p:Nat),p≤code.length∧Cod.inB ws.length (List.take p code)=true→bif decide ((p:Int)<(code.length:Int)) then (0≤(p:Int)∧(p:Int)<(code.length:Int))∧bif decide (code.getD (p:Int).toNat (0:Int)<0) then (!decide (0≤(p:Int)))=Cod.q0p lang ws code else bif decide ((ws.length:Int)≤code.getD (p:Int).toNat (0:Int)) then (!decide (0≤(p:Int)))=Cod.q0p lang ws code else (zFit ((p:Int)+1))∧∃ (p':Nat),(p'≤code.length∧Cod.inB ws.length (List.take p' code)=true)∧code.length-p'<code.length-p∧((p:Int)+1=(p':Int)∧code=code∧True∧(code.length:Int)=(code.length:Int)∧True)∧((lang=lang∧ws=ws∧True)∧True)∧True∧True∧True∧(zCoB0_0 code lang ws)∧True∧True∧True∧True else (!decide (0≤(-1:Int)))=Cod.q0p lang ws code else false=Cod.q0p lang ws code else false=Cod.q0p lang ws code else false=Cod.q0p lang ws code:=by
 delta zCoB0_0 zFit
 simp only [and_true,eq_self]
 have h:q0d (lang,ws)∧code.length≤1000000:=h
 have hlen:code.length≤1000000:=h.2
 refine ⟨h.1,bifP (fun hv=>?_) fun hv=>?_⟩
 rotate_left
 ·unfold Cod.q0p; rw [hv]; rfl
 refine bifP (fun h3=>?_) fun h3=>?_
 rotate_left
 ·unfold Cod.q0p; rw [h3,Bool.false_and,Bool.and_false]
 refine bifP (fun h5=>?_) fun h5=>?_
 rotate_left
 ·unfold Cod.q0p; rw [h5,Bool.false_and,Bool.and_false,Bool.and_false]
 have hc:Cod.q0p lang ws code=Cod.inB ws.length code:=by unfold Cod.q0p; rw [hv,h3,h5,Bool.true_and,Bool.true_and,Bool.true_and]
 rw [hc]
 refine ⟨⟨0,⟨Nat.zero_le _,rfl⟩,rfl⟩,?_⟩
 rintro p ⟨hp,ha⟩
 have hti:((p:Int).toNat)=p:=rfl
 simp only [hti]
 have hpos:(!decide ((0:Int)≤(p:Int)))=false:=by rw [decide_eq_true (by omega)]; rfl
 have no:p<code.length→(decide (0≤code.getD p 0)&&decide (code.getD p 0<(ws.length:Int)))=false→false=Cod.inB ws.length code:=fun hl hf=>(Snd.q9e code 0 _ p hl hf).symm
 refine bifP (fun hb=>?_) fun hb=>?_
 ·have hlt:p<code.length:=by have:=of_decide_eq_true hb; omega
  refine ⟨⟨by omega,by omega⟩,bifP (fun hb=>?_) fun h1=>bifP (fun hb=>?_) fun h2=>⟨⟨by omega,by omega⟩,p+1,⟨by omega,?_⟩,by omega,rfl⟩⟩
  ·rw [hpos]; exact no hlt (by rw [decide_eq_false (by have:=of_decide_eq_true hb; omega)]; rfl)
  ·rw [hpos]; exact no hlt (by rw [decide_eq_false (p:=code.getD p 0<(ws.length:Int)) (by have:=of_decide_eq_true hb; omega),Bool.and_false])
  ·show (code.take (p+1)).all _=true
   rw [Snd.q6a code 0 _ p hlt]
   have ha:(code.take p).all _=true:=ha
   rw [ha,decide_eq_true (by have:=of_decide_eq_false h1; omega),decide_eq_true (by have:=of_decide_eq_false h2; omega)]; rfl
 ·have hle:code.length≤p:=by have:=of_decide_eq_false hb; omega
  have ha:(code.take p).all _=true:=ha
  rw [Snd.qbz code _ p hle] at ha
  show (!decide ((0:Int)≤-1))=_
  exact ha.symm
end Go.Proofs.YtfecgebhoondjaaGreatDoor
set_option linter.unusedVariables false
namespace Go.Proofs.YtfecgebhoondjaaGreatDoor
open Go.RowKit
open R
theorem key_splice (l:List Int) (v:Value):splice [v,.int .i64 0,.int .i64 0,.int .i64 0,.int .i64 0,.int .i64 0] 1 ((l.take 5).map (Value.int .i64)) =
  [v,.int .i64 (l.getD 0 0),.int .i64 (l.getD 1 0),.int .i64 (l.getD 2 0),.int .i64 (l.getD 3 0),.int .i64 (l.getD 4 0)]:=by
 unfold splice
 match l with
 | []=>rfl
 | [a]=>rfl
 | [a,b]=>rfl
 | [a,b,c]=>rfl
 | [a,b,c,d]=>rfl
 | a::b::c::d::e::r=>simp
theorem copy_key (l:List Int) (c:Nat) (A:Option Addr) (W:World) (g:Nat) (v:Value) (ty:TypeId) (hb:Blk W g 169 #[v,.int .i64 0,.int .i64 0,.int .i64 0,.int .i64 0,.int .i64 0])
  (hA:0<l.length→∃ ad,A=some ad∧∀ j v,((l.take 5).map (Value.int .i64))[j]? = some v→W.cell? (ad.add j)=some v) (w:World) (hbel:Below w.heap.size w W) (hg:w.heap.size≤g) :
  ∃ n W',(Builtin.copy_ #[40,40] ty #[.slice (some ⟨g,1,none⟩) 5 5,.slice A l.length c]).run Tryz.prog W=.ok (goInt n) W' ∧
   Blk W' g 169 #[v,.int .i64 (l.getD 0 0),.int .i64 (l.getD 1 0),.int .i64 (l.getD 2 0),.int .i64 (l.getD 3 0),.int .i64 (l.getD 4 0)]∧Below w.heap.size w W'∧W'.heap.size=W.heap.size∧∀ k,k≠g→W'.heap[k]? = W.heap[k]? := by
 have hsz:((Tryz.prog.info? 3).map (·.size))=some 1:=by kernel_rfl
 have hu:Tryz.prog.underlying 40=some (.slice 3):=by kernel_rfl
 by_cases h0:l.length=0
 ·obtain rfl:=List.eq_nil_of_length_eq_zero h0
  exact ⟨0,W,run_copy_none W _ _ _ _ _ _ _ _ _ _ hu hsz (by simp),hb,hbel,rfl,fun _ _=>rfl⟩
 ·obtain ⟨ad,rfl,hsrc⟩:=hA (by omega)
  have hrun:=run_copy_row (P:=Tryz.prog) W 40 40 ty 3 g 1 5 5 ad l.length c _ 169 ((l.take 5).map (Value.int .i64)) hu hsz hb (by simp [Nat.min_comm]) hsrc (by simp; omega) (fun v hv=>by obtain ⟨x,_,rfl⟩:=List.mem_map.1 hv; rfl)
  have hrun:_=Result.ok (goInt ((l.take 5).map (Value.int .i64)).length) (W.setRow g (splice [v,.int .i64 0,.int .i64 0,.int .i64 0,.int .i64 0,.int .i64 0] 1 ((l.take 5).map (Value.int .i64))).toArray):=hrun
  rw [key_splice] at hrun
  exact ⟨_,_,hrun,setRow_heap W g _ _ _ _ hb,hbel.trans ⟨rfl,rfl,rfl,by simp [World.setRow],fun k hk=>setRow_other W g k _ (by omega)⟩,by simp [World.setRow],fun k hk=>setRow_other W g k _ hk⟩
set_option maxRecDepth 100000 in
theorem key_walk (l:List Int) (c:Nat) (A:Option Addr) (w:World) (hA:0<l.length→∃ ad,A=some ad∧ad.block<w.heap.size∧∀ j v,((l.take 5).map (Value.int .i64))[j]? = some v→w.cell? (ad.add j)=some v) :
  Calls Tryz.prog 126 #[.slice A l.length c] w fun e w'=>e=.returned (.agg #[.int .i64 l.length,.int .i64 (l.getD 0 0),.int .i64 (l.getD 1 0),.int .i64 (l.getD 2 0),.int .i64 (l.getD 3 0),.int .i64 (l.getD 4 0)])∧Below w.heap.size w w':=by
 have hA':=Lib.hid hA
 clear hA
 go_enter Tryz.func126,Tryz.ntmps126
 go_wp2
 have hA:=hA'.out
 obtain ⟨n,W',hrun,hb,hbel,hs,ho⟩:=copy_key l c A ((w.alloc (.cells #[.int .i64 0,.int .i64 0,.int .i64 0,.int .i64 0,.int .i64 0,.int .i64 0] 169)).alloc (.cells #[.int .i64 l.length,.int .i64 0,.int .i64 0,.int .i64 0,.int .i64 0,.int .i64 0] 169)) (w.heap.size+1) (.int .i64 l.length) 3 (by
   have:=World.alloc_heap_new (w.alloc (.cells #[.int .i64 0,.int .i64 0,.int .i64 0,.int .i64 0,.int .i64 0,.int .i64 0] 169)) (.cells #[.int .i64 l.length,.int .i64 0,.int .i64 0,.int .i64 0,.int .i64 0,.int .i64 0] 169)
   rwa [World.size_alloc] at this) (fun h=>by
   obtain ⟨ad,e,hlt,h1⟩:=hA h
   refine ⟨ad,e,fun j v hj=>?_⟩
   exact Lib.cell?_alloc_some _ (Lib.cell?_alloc_some _ (h1 j v hj))) w (((Below.refl _ w).alloc (Nat.le_refl _) _).alloc (by simp) _) (Nat.le_succ _)
 rw [hrun]
 clear hrun hA' hA
 have hB0:Blk W' w.heap.size 169 #[.int .i64 0,.int .i64 0,.int .i64 0,.int .i64 0,.int .i64 0,.int .i64 0]:=(ho _ (by omega)).trans ((Below.heap_alloc _ _ _ (by simp)).trans (World.alloc_heap_new w _))
 clear ho
 have k0:=hb.cell 0
 have k1:=hb.cell 1
 have k2:=hb.cell 2
 have k3:=hb.cell 3
 have k4:=hb.cell 4
 have k5:=hb.cell 5
 have j0:=hB0.cell 0
 have j1:=hB0.cell 1
 have j2:=hB0.cell 2
 have j3:=hB0.cell 3
 have j4:=hB0.cell 4
 have j5:=hB0.cell 5
 have f0:=hB0.frozen 0
 have f1:=hB0.frozen 1
 have f2:=hB0.frozen 2
 have f3:=hB0.frozen 3
 have f4:=hB0.frozen 4
 have f5:=hB0.frozen 5
 simp only [List.getElem?_toArray,List.getElem?_cons_zero,List.getElem?_cons_succ] at k0 k1 k2 k3 k4 k5 j0 j1 j2 j3 j4 j5
 have HB:=Lib.hid hB0
 have HL:=Lib.hid hbel
 clear hb hB0 hbel
 go_wp2
 refine bodyPost_ret (qiq rfl _ _ w.heap.size 169 _ _ rfl ((((((HB.out.set_ 0 _).set_ 1 _).set_ 2 _).set_ 3 _).set_ 4 _).set_ 5 _) Tryz.underlying169 rfl (by kernel_rfl)) rfl ?_
 refine ⟨rfl,?_⟩
 exact q1i (q1i (q1i (q1i (q1i (q1i HL.out (Nat.le_refl _) _) (Nat.le_refl _) _) (Nat.le_refl _) _) (Nat.le_refl _) _) (Nat.le_refl _) _) (Nat.le_refl _) _
end Go.Proofs.YtfecgebhoondjaaGreatDoor
set_option linter.unusedVariables false
namespace Go.Proofs.YtfecgebhoondjaaGreatDoor
open Go.RowKit
open R
attribute [local go_sem] q34 q21 q2d
theorem get_bs (s:List UInt8) (i:Nat) (h:i<(bs s).size):(bs s)[i]'h=s.getD i 0:=by
 rw [List.getD_eq_getElem?_getD,List.getElem?_eq_getElem (show i<s.length from h)]
 rfl
theorem rune_is (s:List UInt8) (i:Nat) (h:i<(bs s).size):1≤(Utf8.decode (bs s) i).2 ∧
  (Snd.letB (s.getD i 0)=true→Utf8.decode (bs s) i=((s.getD i 0).toNat,1)∧97≤(s.getD i 0).toNat∧(s.getD i 0).toNat≤122) ∧
  (Snd.letB (s.getD i 0)=false→(Utf8.decode (bs s) i).1<97∨122<(Utf8.decode (bs s) i).1):=by
 have hg:=get_bs s i h
 by_cases ha:((bs s)[i]'h).toNat<128
 ·have hd:=decode_ascii (bs s) i h ha
  rw [hg] at hd ha
  rw [hd]
  refine ⟨Nat.le_refl _,fun hl=>?_,fun hl=>?_⟩
  ·unfold Snd.letB at hl
   simp only [Bool.and_eq_true,decide_eq_true_eq] at hl
   exact ⟨rfl,hl.1,hl.2⟩
  ·unfold Snd.letB at hl
   simp only [Bool.and_eq_false_iff,decide_eq_false_iff_not] at hl
   show (s.getD i 0).toNat<97∨122<(s.getD i 0).toNat
   omega
 ·have hd:=decode_high (bs s) i h (by omega)
  rw [hg] at ha
  refine ⟨hd.2,fun hl=>?_,fun _=>by omega⟩
  unfold Snd.letB at hl
  simp only [Bool.and_eq_true,decide_eq_true_eq] at hl
  omega
set_option maxRecDepth 100000 in
set_option maxHeartbeats 1000000 in
theorem qf4 (s:List UInt8) (lo hi:Int) (w:World) (hs:s.length≤1000000) :
  Calls Tryz.prog 87 #[.string (bs s),.int .i64 lo,.int .i64 hi] w fun e w'=>e=.returned (.bool (Snd.q0r s lo hi))∧Below w.heap.size w w':=by
 have hsz:(bs s).size=s.length:=rfl
 have bel:∀ pos,Below w.heap.size w (w.iter (bs s) pos):=fun pos=>q0e (q07 w) _
 have HB:=Lib.hid bel
 clear bel
 go_enter Tryz.func87,Tryz.ntmps87
 go_wp2
 go_loopw [8] (fun v wr=>∃ pos,wr=w.iter (bs s) pos∧(s.take pos).all Snd.letB=true) (fun _ wr=>s.length-wr.iterPos w.heap.size)
 case atStart=>exact ⟨0,rfl,rfl⟩
 case round =>
  obtain ⟨pos,rfl,ha⟩:=hrel
  have HA:=Lib.hid ha
  clear ha
  by_cases hlt:pos<s.length
  ·have hlt':pos<(bs s).size:=hlt
   have hnx:∀ ty,(Instr.next (.pointer (some ⟨w.heap.size,0,none⟩)) true ty).run Tryz.prog (w.iter (bs s) pos)=_:=fun ty=>run_next_any w (bs s) pos ty hlt'
   obtain ⟨r1,r2,r3⟩:=rune_is s pos hlt'
   cases hl:Snd.letB (s.getD pos 0)
   ·have hf:Snd.q0r s lo hi=false:=by
     unfold Snd.q0r
     rw [Snd.q9e s 0 Snd.letB pos hlt hl]; rfl
    have HF:=Lib.hid hf
    have h3:=r3 hl
    clear hf hl r1 r2 r3
    generalize Utf8.decode (bs s) pos=D at *
    by_cases h97:(D.1:Int)<97
    ·go_wp2
     go_ret
     exact ⟨q5f HF.out.symm,HB.out _⟩
    ·have h122:(122:Int)<D.1:=by omega
     go_wp2
     go_ret
     exact ⟨q5f HF.out.symm,HB.out _⟩
   ·obtain ⟨hd,h1,h2⟩:=r2 hl
    have hst:(s.take (pos+1)).all Snd.letB=true:=by rw [Snd.q6a s 0 Snd.letB pos hlt,HA.out,hl]; rfl
    have HST:=Lib.hid hst
    rw [hd] at hnx
    clear hst hl r1 r2 r3 hd
    generalize (s.getD pos 0).toNat=b at *
    have h97:¬ (b:Int)<97:=by omega
    have h122:¬ (122:Int)<b:=by omega
    go_wp2
    go_roundw
    case rel=>exact ⟨pos+1,rfl,HST.out⟩
    case measure=>simp; omega
  ·have hnx:∀ ty,(Instr.next (.pointer (some ⟨w.heap.size,0,none⟩)) true ty).run Tryz.prog (w.iter (bs s) pos)=_:=fun ty=>run_next_end w (bs s) pos ty hlt
   have hv:Snd.q0r s lo hi=(decide (lo≤(s.length:Int))&&decide ((s.length:Int)≤hi)):=by
    unfold Snd.q0r
    rw [← Snd.qbz s Snd.letB pos (by omega),HA.out]; rfl
   have HV:=Lib.hid hv
   clear hv
   by_cases h1:lo≤(s.length:Int)
   ·by_cases h2:(s.length:Int)≤hi
    ·have hf:=HV.out
     rw [decide_eq_true h1,decide_eq_true h2] at hf
     have HF:=Lib.hid hf
     clear hf
     go_wp2
     go_ret
     exact ⟨q5f (by rw [HF.out]; first | rfl | simp [h1,h2]),HB.out _⟩
    ·have hf:=HV.out
     rw [decide_eq_true h1,decide_eq_false h2] at hf
     have HF:=Lib.hid hf
     clear hf
     go_wp2
     go_ret
     exact ⟨q5f (by rw [HF.out]; first | rfl | simp [h1,h2]),HB.out _⟩
   ·have hf:=HV.out
    rw [decide_eq_false h1] at hf
    have HF:=Lib.hid hf
    clear hf
    go_wp2
    go_ret
    exact ⟨q5f (by rw [HF.out]; first | rfl | simp [h1]),HB.out _⟩
end Go.Proofs.YtfecgebhoondjaaGreatDoor
set_option linter.unusedVariables false
namespace Go.Proofs.YtfecgebhoondjaaGreatDoor
open Go.RowKit
structure Scan (w:World) (b:Nat) (s:ByteArray):Prop where
 text:w.cell? ⟨b,0,none⟩=some (.string s)
 cls:∀ c:UInt8,w.cell? ⟨b,1+c.toNat,none⟩=some (.int .i64 (Lx.cls c:Nat))
theorem Scan.drewN {w:World} {b:Nat} {s:ByteArray} (h:Scan w b s) (n:Nat):Scan (w.drewN n) b s:=⟨h.text,h.cls⟩
theorem Scan.below {B:Nat} {w w':World} {b:Nat} {s:ByteArray} (h:Scan w b s) (hb:Below B w w') (hB:b<B):Scan w' b s :=
 ⟨(hb.cell (p:=⟨b,0,none⟩) hB).trans h.text,fun c=>(hb.cell (p:=⟨b,1+c.toNat,none⟩) hB).trans (h.cls c)⟩
theorem Scan.alloc {w:World} {b:Nat} {s:ByteArray} (h:Scan w b s) (hB:b<w.heap.size) (o:Obj):Scan (w.alloc o) b s :=
 h.below ((Below.refl w.heap.size w).alloc (Nat.le_refl _) o) hB
set_option maxHeartbeats 400000 in
theorem at_ge (b:Nat) (s:ByteArray) (i:Int) (w:World) (hs:s.size≤9223372036854775807) (hi:(s.size:Int)≤i)
 (h0:w.cell? ⟨b,0,none⟩=some (.string s)) :
  Calls Tryz.prog 183 #[.pointer (some ⟨b,0,none⟩),.int .i64 i] w fun e w'=>e=.returned (.int .i64 0)∧w=w':=by
 go_enter Tryz.func183,Tryz.ntmps183
 go_wp2
 go_ret
 exact ⟨rfl,rfl⟩
set_option maxHeartbeats 400000 in
theorem at_lt (b:Nat) (s:ByteArray) (i:Nat) (w:World) (hs:s.size≤9223372036854775807) (hi:i<s.size)
 (h0:w.cell? ⟨b,0,none⟩=some (.string s)) (hc:w.cell? ⟨b,1+s[i].toNat,none⟩=some (.int .i64 (Lx.cls s[i]:Nat))) :
  Calls Tryz.prog 183 #[.pointer (some ⟨b,0,none⟩),.int .i64 i] w fun e w'=>e=.returned (.int .i64 (Lx.cls s[i]:Nat))∧∃ n,w'=w.drewN n:=by
 have hb:s[i].toNat<256:=UInt8.toNat_lt s[i]
 go_enter Tryz.func183,Tryz.ntmps183
 go_wp2
 go_quiet (fail)
 go_wp2
 go_ret
 exact ⟨rfl,_,rfl⟩
theorem q6g (b:Nat) (s:ByteArray) (i:Int) (w:World) (hs:s.size≤9223372036854775807) (hi:0≤i) (h:Scan w b s) :
  Calls Tryz.prog 183 #[.pointer (some ⟨b,0,none⟩),.int .i64 i] w fun e w' =>
   e=.returned (.int .i64 (Lx.q2a (s.data.toList.drop i.toNat):Nat))∧∃ n,w'=w.drewN n:=by
 obtain ⟨k,rfl⟩:=Int.eq_ofNat_of_zero_le hi
 rw [Int.toNat_natCast]
 by_cases hlt:k<s.size
 ·rw [q4g s k hlt]
  exact at_lt b s k w hs hlt h.text (h.cls _)
 ·have hd:s.data.toList.drop k=[]:=List.drop_eq_nil_of_le (by rw [← q0t]; omega)
  rw [hd]
  exact (at_ge b s k w hs (by omega) h.text).mono fun e w' ⟨he,hw⟩=>⟨he,0,hw.symm⟩
def among (zs:List Int) (c:UInt8):Bool:=zs.contains (Lx.cls c:Nat)
theorem q58 {p:UInt8→Bool} {c:UInt8} {l:List UInt8} (h:p c=true):Lx.span p (c::l)=Lx.span p l+1:=by
 simp [Lx.span,h]
theorem q8m {p:UInt8→Bool} {c:UInt8} {l:List UInt8} (h:p c=false):Lx.span p (c::l)=0:=by
 simp [Lx.span,h]
theorem qia (p:UInt8→Bool) (l:List UInt8):Lx.span p l≤l.length:=by
 induction l with
 | nil=>simp [Lx.span]
 | cons c r ih =>
  cases h:p c
  ·rw [q8m h]; omega
  ·rw [q58 h,List.length_cons]; omega
set_option maxHeartbeats 1000000 in
theorem qdd (b:Nat) (s:ByteArray) (i:Nat) (bk n c:Nat) (zs:List Int) (w:World) (hs:s.size≤4611686018427387904) (hi:i≤s.size) (h:Scan w b s)
  (hn:n=zs.length) (hn1:0<n) (hn2:n≤100) (hz:∀ j,j<zs.length→w.cell? ⟨bk,0+j,none⟩=some (.int .i64 (zs.getD j 0))) :
  Calls Tryz.prog 182 #[.pointer (some ⟨b,0,none⟩),.int .i64 i,.slice (some ⟨bk,0,none⟩) n c] w fun e w' =>
   e=.returned (.int .i64 (i+Lx.span (among zs) (s.data.toList.drop i):Nat))∧∃ m,w'=w.drewN m:=by
 have htake:zs.take n=zs:=List.take_of_length_le (by omega)
 have HT:=Lib.hid htake; clear htake
 have HZ:=Lib.hid hz; clear hz
 have HN:=Lib.hid hn
 have hnz:n≤zs.length:=by omega
 clear hn
 go_enter Tryz.func182,Tryz.ntmps182
 go_wp2
 go_loopw [1] (fun v wr=>∃ k m:Nat,k≤s.size∧v=.int .i64 k∧wr=w.drewN m∧i+Lx.span (among zs) (s.data.toList.drop i)=k+Lx.span (among zs) (s.data.toList.drop k)) (fun v _=>s.size-(intOf v).toNat)
 case atStart=>exact ⟨i,0,hi,rfl,rfl,rfl⟩
 case round =>
  obtain ⟨k,m,hk,rfl,rfl,hrest⟩:=hrel
  have HR:=Lib.hid hrest; clear hrest
  have h0:=h.text
  by_cases hlt:k<s.size
  ·have hc:=q4g s k hlt
   have HC:=Lib.hid hc; clear hc
   go_wp2_with fail
   refine (q6g b s k _ (by omega) (by omega) (h.drewN m)).mono ?_
   rintro e w' ⟨rfl,m1,rfl⟩
   rw [Int.toNat_natCast,HC.out]
   go_wp2_with fail
   refine (Tryz.slices_Contains_int bk 0 n c zs _ _ hnz (by omega) (by exact HZ.out)).mono ?_
   rintro e w' ⟨rfl,rfl⟩
   rw [HT.out]
   have hx:zs.contains ((Lx.q2a (s[k]::List.drop (k+1) s.data.toList):Nat):Int)=among zs s[k]:=rfl
   rw [hx]
   clear hx
   cases hq:among zs s[k]
   ·go_wp2
    go_ret
    refine ⟨?_,_,rfl⟩
    rw [HR.out,HC.out,q8m hq]
    rfl
   ·go_wp2
    go_roundw
    case rel=>
     refine ⟨k+1,_,by omega,by go_num,rfl,?_⟩
     rw [HR.out,HC.out,q58 hq]
     omega
    case measure=>simp [intOf]; omega
  ·go_wp2
   go_ret
   refine ⟨?_,_,rfl⟩
   rw [HR.out]
   have hd:s.data.toList.drop k=[]:=List.drop_eq_nil_of_le (by rw [← q0t]; omega)
   rw [hd]
   rfl
end Go.Proofs.YtfecgebhoondjaaGreatDoor
namespace Go.Proofs.YtfecgebhoondjaaGreatDoor
open Go.RowKit
namespace Lx
theorem qh0 (c:UInt8):(cls c==1)=q30 c:=by
 have H:∀ c:Fin 256,(cls (UInt8.ofNat c.val)==1)=q30 (UInt8.ofNat c.val):=by decide +kernel
 have h:=H ⟨c.toNat,UInt8.toNat_lt c⟩
 simpa using h
theorem qkl (c:UInt8):(cls c==2)=(c==35):=by
 have H:∀ c:Fin 256,(cls (UInt8.ofNat c.val)==2)=(UInt8.ofNat c.val==35):=by decide +kernel
 have h:=H ⟨c.toNat,UInt8.toNat_lt c⟩
 simpa using h
theorem gap_blank (l:List UInt8):gap l=span q30 l+gap (l.drop (span q30 l)):=by
 induction l with
 | nil=>simp [span,gap,gapc]
 | cons c r ih =>
  cases h:q30 c
  ·rw [q8m h]; simp
  ·rw [q58 h]
   have:gap (c::r)=gap r+1:=by simp [gap,gapc,h]
   rw [this,ih]
   simp only [List.drop_succ_cons]
   omega
theorem qkz (l:List UInt8):q2a (l.drop (span q30 l))≠1:=by
 induction l with
 | nil=>simp [span,q2a]
 | cons c r ih =>
  cases h:q30 c
  ·rw [q8m h]
   intro e
   have:=qh0 c
   simp only [List.drop_zero,q2a] at e
   rw [e,h] at this
   cases this
  ·rw [q58 h]
   exact ih
theorem gap_not (l:List UInt8) (h1:q2a l≠1) (h2:q2a l≠2):gap l=0:=by
 cases l with
 | nil=>rfl
 | cons c r =>
  have hb:q30 c=false:=by rw [← qh0]; simpa [q2a] using h1
  have hh:(c==35)=false:=by rw [← qkl]; simpa [q2a] using h2
  simp only [gap,gapc,hb,hh,Bool.false_eq_true,if_false]
theorem gap_hash (l:List UInt8) (h2:q2a l=2):gap l=gapc true l:=by
 cases l with
 | nil=>cases h2
 | cons c r =>
  have hh:(c==35)=true:=by rw [← qkl]; simpa [q2a] using h2
  obtain rfl:c=35:=by simpa using hh
  show gapc false (35::r)=gapc true (35::r)
  rfl
theorem gapc_none (l:List UInt8) (h:Lib.indexByte l 10<0):gapc true l=l.length:=by
 induction l with
 | nil=>rfl
 | cons c r ih =>
  unfold Lib.indexByte at h
  have hge:=Lib.indexByte_ge r 10
  by_cases hc:(c==10)=true
  ·rw [if_pos hc] at h; omega
  ·rw [if_neg hc] at h
   by_cases hr:(Lib.indexByte r 10==-1)=true
   ·have hr':Lib.indexByte r 10=-1:=by simpa using hr
    have:=ih (by omega)
    simp only [gapc,hc,Bool.false_eq_true,if_false,this,List.length_cons]
   ·rw [if_neg hr] at h
    have hr':Lib.indexByte r 10≠-1:=by simpa using hr
    omega
theorem gapc_some (l:List UInt8) (h:0≤Lib.indexByte l 10):(Lib.indexByte l 10).toNat≤l.length∧gapc true l=(Lib.indexByte l 10).toNat+gap (l.drop (Lib.indexByte l 10).toNat):=by
 induction l with
 | nil=>exact absurd h (by decide)
 | cons c r ih =>
  unfold Lib.indexByte at h ⊢
  have hge:=Lib.indexByte_ge r 10
  by_cases hc:(c==10)=true
  ·rw [if_pos hc]
   obtain rfl:c=10:=by simpa using hc
   refine ⟨Nat.zero_le _,?_⟩
   show gapc true (10::r)=0+gapc false (10::r)
   simp [gapc,q30]
  ·rw [if_neg hc] at h ⊢
   by_cases hr:(Lib.indexByte r 10==-1)=true
   ·rw [if_pos hr] at h; omega
   ·rw [if_neg hr] at h ⊢
    have hr':Lib.indexByte r 10≠-1:=by simpa using hr
    have h0:0≤Lib.indexByte r 10:=by omega
    obtain ⟨ih1,ih2⟩:=ih h0
    have e:(Lib.indexByte r 10+1).toNat=(Lib.indexByte r 10).toNat+1:=by omega
    rw [e]
    refine ⟨by simpa using ih1,?_⟩
    simp only [gapc,hc,Bool.false_eq_true,if_false,List.drop_succ_cons]
    omega
theorem hash_pos (l:List UInt8) (h:q2a l=2):Lib.indexByte l 10≠0:=by
 cases l with
 | nil=>cases h
 | cons c r =>
  have hh:(c==35)=true:=by rw [← qkl]; simpa [q2a] using h
  obtain rfl:c=35:=by simpa using hh
  have hge:=Lib.indexByte_ge r 10
  unfold Lib.indexByte
  rw [if_neg (by decide)]
  split
  ·omega
  ·rename_i h2
   have h2':Lib.indexByte r 10≠-1:=by simpa using h2
   omega
end Lx
theorem qj3:among [1]=Lx.q30:=by
 funext c
 rw [← Lx.qh0]
 have h:∀ n:Nat,([1]:List Int).contains (n:Int)=(n==1):=by
  intro n
  rw [Bool.eq_iff_iff]
  simp
  omega
 exact h _
theorem qho (w:World) (bk:Nat) (hbk:bk=w.heap.size) (x:Int) (t:TypeId):∀ j,j<[x].length→(w.alloc (.cells #[.int .i64 x] t)).cell? ⟨bk,0+j,none⟩=some (.int .i64 ([x].getD j 0)):=by
 intro j hj
 subst hbk
 obtain rfl:j=0:=by simpa using hj
 simp [World.cell?_alloc_at]
set_option maxHeartbeats 1000000 in
theorem gap_any (b:Nat) (s:ByteArray) (i:Int) (w:World) (hs:s.size≤4611686018427387904) (hi0:0≤i) (hi:i≤s.size) (hb:b<w.heap.size) (h:Scan w b s) :
  Calls Tryz.prog 153 #[.pointer (some ⟨b,0,none⟩),.int .i64 i] w fun e w' =>
   e=.returned (.int .i64 (i.toNat+Lx.gap (s.data.toList.drop i.toNat):Nat))∧Below w.heap.size w w':=by
 obtain ⟨i,rfl⟩:=Int.eq_ofNat_of_zero_le hi0
 rw [Int.toNat_natCast]
 have hi':i≤s.size:=by omega
 clear hi hi0
 go_enter Tryz.func153,Tryz.ntmps153
 go_wp2_with fail
 refine (qdd b s i _ 1 1 [1] _ hs hi' (by exact h.below ((Below.refl w.heap.size w).alloc (Nat.le_refl _) _) hb) rfl (by omega) (by omega) (by exact qho w _ rfl 1 _)).mono ?_
 rintro e w' ⟨rfl,m,rfl⟩
 rw [qj3]
 have hg:=Lx.gap_blank (s.data.toList.drop i)
 have hst:=Lx.qkz (s.data.toList.drop i)
 have hle:=qia Lx.q30 (s.data.toList.drop i)
 rw [List.drop_drop] at hg hst
 rw [List.length_drop,← q0t] at hle
 have HG:=Lib.hid hg
 have HST:=Lib.hid hst
 clear hg hst
 generalize Lx.span Lx.q30 (s.data.toList.drop i)=n0 at *
 have hb0:Below w.heap.size w ((w.alloc (.cells #[.int .i64 1] 3)).drewN m):=belN ((Below.refl w.heap.size w).alloc (Nat.le_refl _) _) m
 go_wp2
 go_loopw [1,5] (fun v _ wr=>∃ k:Nat,k≤s.size∧v=.int .i64 k∧Below w.heap.size w wr∧i+Lx.gap (s.data.toList.drop i)=k+Lx.gap (s.data.toList.drop k)∧Lx.q2a (s.data.toList.drop k)≠1) (fun v _ _=>s.size-(intOf v).toNat)
 case atStart=>exact ⟨i+n0,by omega,by go_num,hb0,by rw [HG.out]; omega,HST.out⟩
 case round =>
  obtain ⟨k,hk,rfl,hbr,hrest,hst⟩:=hrel
  clear HG HST hb0
  have HR:=Lib.hid hrest; clear hrest
  have HST:=Lib.hid hst; clear hst
  have hSr:=h.below hbr hb
  have hsz:=hbr.size
  go_wp2_with fail
  refine (q6g b s k _ (by omega) (by omega) hSr).mono ?_
  rintro e w' ⟨rfl,m1,rfl⟩
  rw [Int.toNat_natCast]
  by_cases hc:Lx.q2a (s.data.toList.drop k)=2
  ·rw [hc]
   have hlt:k<s.size:=by
    rcases Nat.lt_or_ge k s.size with hlt | hge
    ·exact hlt
    ·rw [List.drop_eq_nil_of_le (by rw [← q0t]; exact hge)] at hc; cases hc
   have h0:=hSr.text
   have HGH:=Lib.hid (Lx.gap_hash _ hc)
   have hpos:=Lx.hash_pos _ hc
   have HC:=Lib.hid hc; clear hc
   go_wp2_with fail
   refine (Tryz.strings_IndexByte _ _ _).mono ?_
   rintro e w' ⟨rfl,rfl⟩
   have hdl:(s.extract k s.size).data.toList=s.data.toList.drop k:=by
    rw [q3p,q2r]
    exact List.take_of_length_le (by rw [List.length_drop,← q0t]; omega)
   rw [hdl]
   clear hdl
   have h10:(Int.toNat 10).toUInt8=10:=rfl
   rw [h10]
   clear h10
   have hge:=Lib.indexByte_ge (s.data.toList.drop k) 10
   by_cases hneg:Lib.indexByte (s.data.toList.drop k) 10<0
   ·have hnone:=Lib.hid (Lx.gapc_none _ hneg)
    generalize Lib.indexByte (s.data.toList.drop k) 10=o at *
    go_wp2
    go_ret
    refine ⟨?_,belN hbr _⟩
    rw [HR.out,HGH.out,hnone.out,List.length_drop,← q0t]
    exact ret_int (by omega)
   ·have hs2:=Lx.gapc_some (s.data.toList.drop k) (by omega)
    obtain ⟨hs2,hs3⟩:=hs2
    rw [List.length_drop,← q0t] at hs2
    rw [List.drop_drop] at hs3
    have HS3:=Lib.hid hs3; clear hs3
    generalize Lib.indexByte (s.data.toList.drop k) 10=o at *
    obtain ⟨q,rfl⟩:=Int.eq_ofNat_of_zero_le (show 0≤o by omega)
    have hq:q≤s.size-k:=by simpa using hs2
    have hq1:1≤q:=by omega
    have hq2:Lx.gapc true (s.data.toList.drop k)=q+Lx.gap (s.data.toList.drop (k+q)):=HS3.out
    have HQ2:=Lib.hid hq2
    clear HS3 hq2 hs2 hge hneg hpos
    go_wp2_with fail
    have hkq:(k:Int)+q=((k+q:Nat):Int):=by omega
    rw [hkq]
    clear hkq
    refine (qdd b s (k+q) _ 1 1 [1] _ hs (by omega) (by exact (hSr.drewN _).below ((Below.refl _ _).alloc (Nat.le_refl _) _) (by simp; omega)) rfl (by omega) (by omega) (by exact qho (wr.drewN m1) _ rfl 1 _)).mono ?_
    rintro e w' ⟨rfl,m2,rfl⟩
    rw [qj3]
    have hg:=Lx.gap_blank (s.data.toList.drop (k+q))
    have hst:=Lx.qkz (s.data.toList.drop (k+q))
    have hle:=qia Lx.q30 (s.data.toList.drop (k+q))
    rw [List.drop_drop] at hg hst
    rw [List.length_drop,← q0t] at hle
    have HG:=Lib.hid hg
    have HST:=Lib.hid hst
    clear hg hst
    generalize Lx.span Lx.q30 (s.data.toList.drop (k+q))=n1 at *
    go_wp2
    go_roundw
    case rel =>
     refine ⟨k+q+n1,by omega,by go_num,?_,?_,HST.out⟩
     ·exact belN ((belN hbr m1).alloc (by simpa using hsz) _) m2
     ·rw [HR.out,HGH.out,HQ2.out,HG.out]
      omega
    case measure=>simp [intOf]; omega
  ·have hg0:=Lib.hid (Lx.gap_not _ HST.out hc)
   have hcn:((Lx.q2a (s.data.toList.drop k):Int)==2)=false:=by
    rw [beq_eq_false_iff_ne]
    omega
   clear hc
   generalize Lx.q2a (s.data.toList.drop k)=cc at *
   go_wp2
   go_ret
   refine ⟨?_,belN hbr _⟩
   rw [HR.out,hg0.out]
   rfl
end Go.Proofs.YtfecgebhoondjaaGreatDoor
namespace Go.Proofs.YtfecgebhoondjaaGreatDoor
open Go.RowKit
set_option maxRecDepth 100000 in
set_option maxHeartbeats 1000000 in
theorem qlv (s:ByteArray) (hs:s.size=2) (w:World) (ha:∀ (j:Nat) (h:j<s.size),(s[j]'h).toNat<128) :
  Calls Tryz.prog 202 #[.string s,.int .i32 65533] w fun e w'=>e=.returned (.int .i64 (-1))∧Below w.heap.size w w':=by
 have HS:=Lib.hid hs
 have HA:=Lib.hid ha; clear ha
 have hs2:s.size≤2:=by omega
 clear hs
 go_enter Tryz.func202,Tryz.ntmps202
 go_wp2
 go_loopg [5,6] 2 (fun g _ _ wx=>∃ i:Nat,i+g=2∧wx=w.iter s i)
 case atStart=>exact ⟨0,rfl,rfl⟩
 case round =>
  obtain ⟨i,hig,rfl⟩:=hrel
  cases gk with
  | zero =>
   have hnx:=fun ty=>run_next_end (P:=Tryz.prog) w s i ty (by rw [HS.out]; omega)
   go_wp2
   go_ret
   exact ⟨rfl,(Below.refl _ _).alloc (Nat.le_refl _) _⟩
  | succ g =>
   have hi:i<s.size:=by rw [HS.out]; omega
   have hx128:=HA.out i hi
   have hnx:=fun ty=>run_next_ascii (P:=Tryz.prog) w s i ty hi hx128
   generalize s[i]=x at *
   have hne:((x.toNat:Int)==65533)=false:=by rw [beq_eq_false_iff_ne]; omega
   go_wp2
   go_roundg g
   case measure=>omega
   case rel=>exact ⟨i+1,by omega,rfl⟩
set_option maxRecDepth 100000 in
set_option maxHeartbeats 1000000 in
theorem qmj (s:ByteArray) (hs:s.size=2) (r:Int) (w:World) (ha:∀ (j:Nat) (h:j<s.size),(s[j]'h).toNat<128) (h1:128≤r) (h2:Utf8.valid r=true) (h3:r≠65533) :
  Calls Tryz.prog 202 #[.string s,.int .i32 r] w fun e w'=>e=.returned (.int .i64 (-1))∧Below w.heap.size w w':=by
 have HS:=Lib.hid hs
 have HA:=Lib.hid ha; clear ha
 have hs2:s.size≤2:=by omega
 have hs3:2≤s.size:=by omega
 clear hs
 obtain ⟨e1,e2,e3⟩:=encode_facts r h2 h1
 have hlt0:¬ r<128:=by omega
 have hnr:(r==65533)=false:=by rw [beq_eq_false_iff_ne]; exact h3
 have hvr:Lib.validRune r=true:=by
  have e:=validRune_eq r
  rw [h2] at e
  exact e.symm
 clear h2
 go_enter Tryz.func202,Tryz.ntmps202
 go_wp2_with (first | (go_at_call 218; refine (Tryz.utf8_ValidRune _ _).mono ?_; rintro e w' ⟨rfl,rfl⟩))
 go_step3
 go_wp2
 generalize Utf8.encode r=rs at *
 obtain ⟨i,hi⟩:∃ i,rs.size=i+1:=⟨rs.size-1,by omega⟩
 have ei:(rs.size:Int)-1=(i:Int):=by omega
 rw [ei]
 clear ei
 have hir:i<rs.size:=by omega
 have e4:128≤(rs[i]'hir).toNat:=by
  have e5:rs.size-1=i:=by omega
  simp only [e5] at e3
  exact e3 hir
 clear e3
 have hi1:1≤i:=by omega
 have HI:=Lib.hid hi; clear hi
 refine wp_loop_rounds 1 ?_
 rw [rounds_succ]
 by_cases h2:i<s.size
 ·have hne:((s[i].toNat:Int) != (rs[i].toNat:Int))=true:=by
   have a2:=HA.out i h2
   rw [bne_iff_ne]
   omega
  have hz:Lib.indexByte (List.take (s.size-(i+1)) (List.drop (i+1) s.data.toList)) rs[i]=-1:=by
   rw [List.drop_eq_nil_of_le (by rw [← Lib.size_eq]; omega),List.take_nil]
   rfl
  go_wp2
  go_step3
  go_wp2
  go_quiet (fail)
  go_wp2
  go_quiet ((go_at_call 184; exact qmg (Tryz.strings_IndexByte _ _ _)))
  go_wp2
  repeat (first | rw [Exit.noGoto_ret] | simp only [Exit.inBlock,Exit.then])
  go_ret
  exact ⟨rfl,belN (Below.refl _ _) _⟩
 ·go_wp2
  repeat (first | rw [Exit.noGoto_ret] | simp only [Exit.inBlock])
  go_ret
  exact ⟨rfl,Below.refl _ _⟩
theorem qma (s:ByteArray) (hs:s.size=2) (r:Int) (w:World) (ha:∀ (j:Nat) (h:j<s.size),(s[j]'h).toNat<128) (h:r=65533∨(128≤r∧Utf8.valid r=true)) :
  Calls Tryz.prog 202 #[.string s,.int .i32 r] w fun e w'=>e=.returned (.int .i64 (-1))∧Below w.heap.size w w':=by
 by_cases h3:r=65533
 ·subst h3; exact qlv s hs w ha
 ·rcases h with h | ⟨h1,h2⟩
  ·exact absurd h h3
  ·exact qmj s hs r w ha h1 h2 h3
theorem decode_high (s:ByteArray) (i:Nat) (hi:i<s.size) (h:¬ (s[i]'hi).toNat<128) :
  1≤(Utf8.decode s i).2∧i+(Utf8.decode s i).2≤s.size∧((Utf8.decode s i).1=65533∨(128≤(Utf8.decode s i).1∧Utf8.valid (Utf8.decode s i).1=true)) ∧
   ∀ j (hj:j<s.size),i≤j→j<i+(Utf8.decode s i).2→¬ (s[j]'hj).toNat<128:=by
 have e:∀ k (hk:i+k<s.size),(s.get! (i+k)).toNat=(s[i+k]'hk).toNat:=fun k hk=>by
  have:s.get! (i+k)=s[i+k]'hk:=by simp [ByteArray.get!,getElem!_pos,hk]; rfl
  rw [this]
 have e0:(s.get! (i+0)).toNat=(s[i]'hi).toNat:=e 0 hi
 have hb:∀ k,k<4→(decide (i+k<s.size)&&(s.get! (i+k)).toNat / 64==2)=true→∀ hj:i+k<s.size,¬ (s[i+k]'hj).toNat<128:=fun k _ hc hj=>by
  rw [Bool.and_eq_true] at hc
  have h2:(s.get! (i+k)).toNat / 64=2:=by simpa using hc.2
  rw [e k hj] at h2
  omega
 have hl:∀ k,(decide (i+k<s.size)&&(s.get! (i+k)).toNat / 64==2)=true→i+k<s.size:=fun k hc=>by
  rw [Bool.and_eq_true] at hc
  simpa using hc.1
 have one:∀ j (hj:j<s.size),i≤j→j<i+1→¬ (s[j]'hj).toNat<128:=fun j hj h1 h2=>by
  obtain rfl:j=i:=by omega
  exact h
 have l0:(s[i]'hi).toNat<256:=UInt8.toNat_lt _
 have l:∀ k,(s.get! k).toNat<256:=fun k=>UInt8.toNat_lt _
 have l1:=l (i+1)
 have l2:=l (i+2)
 have l3:=l (i+3)
 unfold Utf8.decode
 simp only [e0]
 rw [if_neg h]
 have bad:1≤1∧i+1≤s.size∧(Utf8.runeError=65533∨(128≤Utf8.runeError∧Utf8.valid (Utf8.runeError:Nat)=true))∧∀ j (hj:j<s.size),i≤j→j<i+1→¬ (s[j]'hj).toNat<128 :=
  ⟨by omega,by omega,.inl rfl,one⟩
 split
 ·rename_i h2
  rw [Bool.and_eq_true] at h2
  have c1:=h2.2
  split
  ·refine ⟨by simp,by have:=hl 1 c1; simp; omega,.inr ⟨by simp only []; omega,?_⟩,?_⟩
   ·simp only [Utf8.valid]
    simp
    omega
   ·intro j hj h3 h4
    by_cases hj0:j=i
    ·subst hj0; exact h
    ·obtain rfl:j=i+1:=by simp only [] at h4; omega
     exact hb 1 (by omega) c1 hj
  ·exact bad
 ·split
  ·rename_i h2
   rw [Bool.and_eq_true,Bool.and_eq_true] at h2
   have c1:=h2.1.2
   have c2:=h2.2
   split
   ·rename_i h5
    rw [Bool.and_eq_true] at h5
    have h6:2048≤_:=of_decide_eq_true h5.1
    refine ⟨by simp,by have:=hl 2 c2; simp; omega,.inr ⟨by simp only []; omega,by simpa using h5.2⟩,?_⟩
    intro j hj h3 h4
    by_cases hj0:j=i
    ·subst hj0; exact h
    ·by_cases hj1:j=i+1
     ·subst hj1; exact hb 1 (by omega) c1 hj
     ·obtain rfl:j=i+2:=by simp only [] at h4; omega
      exact hb 2 (by omega) c2 hj
   ·exact bad
  ·split
   ·rename_i h2
    rw [Bool.and_eq_true,Bool.and_eq_true,Bool.and_eq_true] at h2
    have c1:=h2.1.1.2
    have c2:=h2.1.2
    have c3:=h2.2
    split
    ·rename_i h5
     rw [Bool.and_eq_true] at h5
     have h6:65536≤_:=of_decide_eq_true h5.1
     refine ⟨by simp,by have:=hl 3 c3; simp; omega,.inr ⟨by simp only []; omega,by simpa using h5.2⟩,?_⟩
     intro j hj h3 h4
     by_cases hj0:j=i
     ·subst hj0; exact h
     ·by_cases hj1:j=i+1
      ·subst hj1; exact hb 1 (by omega) c1 hj
      ·by_cases hj2:j=i+2
       ·subst hj2; exact hb 2 (by omega) c2 hj
       ·obtain rfl:j=i+3:=by simp only [] at h4; omega
        exact hb 3 (by omega) c3 hj
    ·exact bad
   ·exact bad
set_option maxRecDepth 100000 in
set_option maxHeartbeats 1000000 in
theorem qmc (s chars:ByteArray) (hc:chars.size=2) (w:World) (h8:s.size≤8) (hac:∀ (j:Nat) (h:j<chars.size),(chars[j]'h).toNat<128) :
  Calls Tryz.prog 186 #[.string s,.string chars] w fun e w'=>e=.returned (.int .i64 (Lib.indexAny s.data.toList chars.data.toList))∧Below w.heap.size w w':=by
 have hemp:chars.toList.isEmpty=false:=by
  rw [Lib.toList_data]
  cases h:chars.data.toList with
  | nil=>have:=Lib.size_eq chars; rw [h,List.length_nil] at this; omega
  | cons _ _=>rfl
 have hcon:∀ x:UInt8,¬ x.toNat<128→chars.data.toList.contains x=false:=fun x hx=>by
  rw [List.contains_eq_any_beq,List.any_eq_false]
  intro y hy
  obtain ⟨j,hj,rfl⟩:=List.mem_iff_getElem.1 hy
  have hj':j<chars.size:=by rw [q0t]; exact hj
  have h1:=hac j hj'
  have h2:=qcv chars j hj'
  rw [List.getElem?_eq_getElem hj] at h2
  injection h2 with h2
  intro he
  have he':x=chars.data.toList[j]:=by simpa using he
  rw [he',h2] at hx
  exact hx h1
 have HCON:=Lib.hid hcon; clear hcon
 have HAC:=Lib.hid hac; clear hac
 have hn1:((chars.size:Int)==1)=false:=beq_eq_false_iff_ne.2 (by omega)
 have HC:=Lib.hid hc; clear hc
 have h8z:decide ((8:Int)<(s.size:Int))=false:=decide_eq_false (by omega)
 have hg0:(w.iter s 0).heap[w.heap.size]? = some (.stringIter s 0):=World.iter_heap w s 0
 have hb0:Below w.heap.size w (w.iter s 0):=(Below.refl _ _).alloc (Nat.le_refl _) _
 have hz0:w.heap.size<(w.iter s 0).heap.size:=by show w.heap.size<(w.heap.push _).size; simp
 go_enter Tryz.func186,Tryz.ntmps186
 go_wp2_with (go_at_call 203; refine (Tryz.strings_shouldUseASCIISet _ _).mono ?_; rintro e w' ⟨rfl,rfl⟩; rw [h8z])
 go_loopg [9,10] s.size (fun g _ _ wx=>∃ i:Nat,i+g=s.size∧wx.heap[w'.heap.size]? = some (.stringIter s i)∧Below w'.heap.size w' wx∧w'.heap.size<wx.heap.size∧Lib.NoAny s.data.toList chars.data.toList i)
 case atStart=>exact ⟨0,by omega,hg0,hb0,hz0,Lib.NoAny.zero _ _⟩
 case round =>
  obtain ⟨i,hig,hit,hbx,hlt,hno⟩:=hrel
  clear hg0 hb0 hz0
  have HN:=Lib.hid hno
  clear hno
  have HB:=Lib.hid hbx
  clear hbx
  by_cases hi:i<s.size
  ·have hnx:=fun ty=>Lib.run_next_any_at (P:=Tryz.prog) wr w'.heap.size s i ty hit hi
   have hdle:=decode_le s i
   have hxl:s.data.toList[i]? = some s[i]:=qcv s i hi
   by_cases ha:s[i].toNat<128
   ·rw [decode_ascii s i hi ha] at hnx hdle
    simp only [] at hnx
    have Hx:=Lib.hid hxl; clear hxl
    have HIT:=Lib.hid hit; clear hit
    generalize s[i]=x at *
    have hcn:=Lib.contains_iff_indexByte chars.data.toList x
    have hback:((x.toNat:Int)).toNat.toUInt8=x:=by simp
    cases hin:chars.data.toList.contains x
    ·rw [hin] at hcn
     have hlt2:¬ ((0:Int)≤Lib.indexByte chars.data.toList x):=of_decide_eq_false hcn.symm
     clear hcn
     have HIN:=Lib.hid hin; clear hin
     go_wp2_with (go_at_call 202; refine (Tryz.strings_IndexRune_ascii _ _ _ (by omega) (by omega)).mono ?_; rintro e w' ⟨rfl,hw⟩; rw [hw,hback])
     go_roundg (s.size-(i+1))
     case measure=>omega
     case rel=>exact ⟨i+1,by omega,Lib.iterAt_heap _ _ _ _ _ HIT.out,Lib.below_iterAt HB.out (Nat.le_refl _) _ _,by rw [Lib.iterAt_size]; exact hlt,HN.out.succ Hx.out HIN.out⟩
    ·rw [hin] at hcn
     have hge:(0:Int)≤Lib.indexByte chars.data.toList x:=of_decide_eq_true hcn.symm
     clear hcn
     have HIN:=Lib.hid hin; clear hin
     go_wp2_with (go_at_call 202; refine (Tryz.strings_IndexRune_ascii _ _ _ (by omega) (by omega)).mono ?_; rintro e w' ⟨rfl,hw⟩; rw [hw,hback])
     go_ret
     exact ⟨by rw [Lib.indexAny_hit HN.out Hx.out HIN.out]; rfl,Lib.below_iterAt HB.out (Nat.le_refl _) _ _⟩
   ·obtain ⟨d1,d2,d3,d4⟩:=decode_high s i hi ha
    have hall:Lib.NoAny s.data.toList chars.data.toList (i+(Utf8.decode s i).2):=by
     intro j b hj hb
     by_cases hji:j<i
     ·exact HN.out j b hji hb
     ·have hjs:j<s.size:=by
       rw [Lib.size_eq]
       rcases Nat.lt_or_ge j s.data.toList.length with hjl | hjl
       ·exact hjl
       ·rw [List.getElem?_eq_none hjl] at hb; cases hb
      rw [qcv s j hjs] at hb
      injection hb with hb
      rw [← hb]
      exact HCON.out _ (d4 j hjs (by omega) hj)
    have HALL:=Lib.hid hall
    clear hall d4 ha hxl
    have HD3:=Lib.hid d3; clear d3
    have HIT:=Lib.hid hit; clear hit
    generalize Utf8.decode s i=dc at *
    obtain ⟨r,n⟩:=dc
    simp only [] at hnx d1 d2 hdle
    have hr3:(r:Int)=65533∨(128≤(r:Int)∧Utf8.valid r=true):=by
     rcases HD3.out with h | h
     ·left; simp only [] at h; omega
     ·right; simp only [] at h; exact ⟨by omega,h.2⟩
    have HR3:=Lib.hid hr3
    clear hr3
    go_wp2_with fail
    refine (qma chars HC.out r _ HAC.out HR3.out).mono ?_
    rintro e w2 ⟨rfl,hb2⟩
    have HB2:=Lib.hid hb2; clear hb2
    go_wp2
    go_roundg (s.size-(i+n))
    case measure=>omega
    case rel =>
     have hz2:=HB2.out.size
     rw [Lib.iterAt_size] at hz2
     refine ⟨i+n,by omega,?_,?_,by omega,HALL.out⟩
     ·rw [HB2.out.block _ (by rw [Lib.iterAt_size]; exact hlt)]
      exact Lib.iterAt_heap _ _ _ _ _ HIT.out
     ·exact (Lib.below_iterAt HB.out (Nat.le_refl _) _ _).trans (HB2.out.mono (by rw [Lib.iterAt_size]; omega))
  ·have hnx:=fun ty=>Lib.run_next_end_at (P:=Tryz.prog) wr w'.heap.size s i ty hit hi
   have hii:i=s.data.toList.length:=by rw [← Lib.size_eq]; omega
   have HI:=Lib.hid hii
   clear hii
   have HIT:=Lib.hid hit
   clear hit
   go_wp2
   go_ret
   exact ⟨by rw [Lib.indexAny_none (by rw [← HI.out]; exact HN.out)]; rfl,HB.out⟩
theorem zero_ascii:∀ w,(zeroValue 234).run Tryz.prog w=.ok (.agg (Array.replicate 256 (.bool false))) w:=fun _=>by kernel_rfl
theorem qmd (s:ByteArray) (w:World) (hs:s.size<4294967281) :
  Calls Tryz.prog 186 #[.string s,.string { data:=#[34,10] }] w fun e w'=>e=.returned (.int .i64 (Lib.indexAny s.data.toList [34,10]))∧Below w.heap.size w w':=by
 have ha:∀ (j:Nat) (h:j<(⟨#[34,10]⟩:ByteArray).size),((⟨#[34,10]⟩:ByteArray)[j]'h).toNat<128:=by
  intro j h
  have h2:(⟨#[34,10]⟩:ByteArray).size=2:=rfl
  rw [h2] at h
  match j,h with
  | 0,_=>show (34:UInt8).toNat<128; decide
  | 1,_=>show (10:UInt8).toNat<128; decide
 by_cases h8:s.size≤8
 ·exact qmc s ⟨#[34,10]⟩ rfl w h8 ha
 ·refine (Tryz.strings_IndexAny_long zero_ascii s ⟨#[34,10]⟩ w (Nat.le_refl 2) (by omega) hs (by show 2<4294967281; omega) ?_).mono ?_
  ·intro j b hb
   have h2:j<2:=by
    rcases Nat.lt_or_ge j 2 with h | h
    ·exact h
    ·rw [List.getElem?_eq_none (by simpa using h)] at hb; cases hb
   have hb':([34,10]:List UInt8)[j]? = some b:=hb
   match j,h2 with
   | 0,_=>injection hb' with hb'; subst hb'; decide
   | 1,_=>injection hb' with hb'; subst hb'; decide
  ·rintro e w' ⟨rfl,rfl⟩
   exact ⟨rfl,((Below.refl _ _).alloc (Nat.le_refl _) _).alloc (by simp) _⟩
end Go.Proofs.YtfecgebhoondjaaGreatDoor
namespace Go.Proofs.YtfecgebhoondjaaGreatDoor
open Go.RowKit
attribute [local go_sem] q34 q21 q2d
namespace Lx
theorem q7p (P:UInt8→Bool) (h:∀ c:Fin 256,P (UInt8.ofNat c.val)=true) (c:UInt8):P c=true:=by
 have h1:=h ⟨c.toNat,UInt8.toNat_lt c⟩
 simpa using h1
theorem q6f (c:UInt8):q2n c=(cls c==3):=by
 simpa using q7p (fun c=>q2n c==(cls c==3)) (by decide +kernel) c
theorem q65 (c:UInt8):isDigit c=(cls c==4):=by
 simpa using q7p (fun c=>isDigit c==(cls c==4)) (by decide +kernel) c
theorem qay (c:UInt8):(c==34)=(cls c==6):=by
 simpa using q7p (fun c=>(c==34)==(cls c==6)) (by decide +kernel) c
theorem qer (c:UInt8):(c==33)=(cls c==7):=by
 simpa using q7p (fun c=>(c==33)==(cls c==7)) (by decide +kernel) c
theorem qde (c:UInt8):(c==60||c==62)=(cls c==8):=by
 have h:=q7p (fun c=>(c==60||c==62)==(cls c==8)) (by decide +kernel) c
 rwa [beq_iff_eq] at h
theorem cls_sym (c:UInt8):isSym c=(cls c==9):=by
 simpa using q7p (fun c=>isSym c==(cls c==9)) (by decide +kernel) c
theorem cls_word (c:UInt8):isWord c=(cls c==3||cls c==4||cls c==5):=by
 have h:=q7p (fun c=>isWord c==(cls c==3||cls c==4||cls c==5)) (by decide +kernel) c
 rwa [beq_iff_eq] at h
theorem scan_letter (c:UInt8) (r:List UInt8) (h:cls c=3) :
  scan (c::r)=if 24<span isWord (c::r) then bad 2 else ⟨0,1,0,(c::r).take (span isWord (c::r)),span isWord (c::r)⟩:=by
 have h1:q2n c=true:=by rw [q6f,h]; rfl
 have h2:isWord c=true:=by rw [cls_word,h]; rfl
 rw [q58 h2,scan,if_pos h1]
theorem scan_digit (c:UInt8) (r:List UInt8) (h:cls c=4) :
  scan (c::r)=if 13<span isDigit (c::r)||q2a ((c::r).drop (span isDigit (c::r)))==3||q2a ((c::r).drop (span isDigit (c::r)))==5 then bad 4
   else ⟨0,2,qe2 ((c::r).take (span isDigit (c::r))),(c::r).take (span isDigit (c::r)),span isDigit (c::r)⟩:=by
 have h1:q2n c=false:=by rw [q6f,h]; rfl
 have h2:isDigit c=true:=by rw [q65,h]; rfl
 rw [q58 h2,scan,if_neg (by rw [h1]; decide),if_pos h2]
theorem scan_quote (c:UInt8) (r:List UInt8) (h:cls c=6) :
  scan (c::r)=if (r.drop (span q3t r)).head? == some 34 then (if 400<span q3t r then bad 2 else ⟨0,3,0,r.take (span q3t r),span q3t r+2⟩) else bad 6:=by
 have h1:q2n c=false:=by rw [q6f,h]; rfl
 have h2:isDigit c=false:=by rw [q65,h]; rfl
 have h3:(c==34)=true:=by rw [qay,h]; rfl
 rw [scan,if_neg (by rw [h1]; decide),if_neg (by rw [h2]; decide),if_pos h3]
theorem scan_mark (c:UInt8) (r:List UInt8) (h:cls c=7):scan (c::r)=if r.head? == some 61 then ⟨0,4,0,[c,61],2⟩ else bad 3:=by
 have h1:q2n c=false:=by rw [q6f,h]; rfl
 have h2:isDigit c=false:=by rw [q65,h]; rfl
 have h3:(c==34)=false:=by rw [qay,h]; rfl
 have h4:(c==33)=true:=by rw [qer,h]; rfl
 have h5:(c==60||c==62)=false:=by rw [qde,h]; rfl
 have h6:isSym c=false:=by rw [cls_sym,h]; rfl
 rw [scan,if_neg (by rw [h1]; decide),if_neg (by rw [h2]; decide),if_neg (by rw [h3]; decide)]
 simp only [h4,h5,h6,Bool.true_or,Bool.true_and,Bool.or_self,Bool.false_eq_true,if_false]
theorem scan_angle (c:UInt8) (r:List UInt8) (h:cls c=8):scan (c::r)=if r.head? == some 61 then ⟨0,4,0,[c,61],2⟩ else ⟨0,4,0,[c],1⟩:=by
 have h1:q2n c=false:=by rw [q6f,h]; rfl
 have h2:isDigit c=false:=by rw [q65,h]; rfl
 have h3:(c==34)=false:=by rw [qay,h]; rfl
 have h4:(c==33)=false:=by rw [qer,h]; rfl
 have h5:(c==60||c==62)=true:=by rw [qde,h]; rfl
 rw [scan,if_neg (by rw [h1]; decide),if_neg (by rw [h2]; decide),if_neg (by rw [h3]; decide)]
 simp only [h4,h5,Bool.false_or,Bool.true_or,Bool.true_and,if_true]
theorem scan_sym (c:UInt8) (r:List UInt8) (h:cls c=9):scan (c::r)=⟨0,4,0,[c],1⟩:=by
 have h1:q2n c=false:=by rw [q6f,h]; rfl
 have h2:isDigit c=false:=by rw [q65,h]; rfl
 have h3:(c==34)=false:=by rw [qay,h]; rfl
 have h4:(c==33)=false:=by rw [qer,h]; rfl
 have h5:(c==60||c==62)=false:=by rw [qde,h]; rfl
 have h6:isSym c=true:=by rw [cls_sym,h]; rfl
 rw [scan,if_neg (by rw [h1]; decide),if_neg (by rw [h2]; decide),if_neg (by rw [h3]; decide)]
 simp only [h4,h5,h6,Bool.false_or,Bool.false_and,Bool.false_eq_true,if_false,if_true]
theorem scan_other (c:UInt8) (r:List UInt8) (h3:cls c≠3) (h4:cls c≠4) (h6:cls c≠6) (h7:cls c≠7) (h8:cls c≠8) (h9:cls c≠9):scan (c::r)=bad 3:=by
 have e1:q2n c=false:=by rw [q6f]; simpa using h3
 have e2:isDigit c=false:=by rw [q65]; simpa using h4
 have e3:(c==34)=false:=by rw [qay]; simpa using h6
 have e4:(c==33)=false:=by rw [qer]; simpa using h7
 have e5:(c==60||c==62)=false:=by rw [qde]; simpa using h8
 have e6:isSym c=false:=by rw [cls_sym]; simpa using h9
 rw [scan,if_neg (by rw [e1]; decide),if_neg (by rw [e2]; decide),if_neg (by rw [e3]; decide)]
 simp only [e4,e5,e6,Bool.false_or,Bool.false_and,Bool.false_eq_true,if_false]
theorem qm8 (l:List UInt8) (h:∀ c∈l,isDigit c=true):∀ a,Lib.decFrom a l=some (l.foldl (fun a c=>10*a+(c.toNat-48)) a):=by
 induction l with
 | nil=>intro a; rfl
 | cons c r ih =>
  intro a
  have hc:isDigit c=true:=h c (by simp)
  have hd:Lib.digitVal c=some (c.toNat-48):=by
   unfold isDigit at hc
   rw [Bool.and_eq_true] at hc
   have h1:48≤c:=of_decide_eq_true hc.1
   have h2:c≤57:=of_decide_eq_true hc.2
   have h1':48≤c.toNat:=h1
   have h2':c.toNat≤57:=h2
   unfold Lib.digitVal
   rw [if_pos ⟨h1',h2'⟩]
  unfold Lib.decFrom
  rw [hd]
  simp only [List.foldl_cons]
  rw [ih (fun c hc=>h c (by simp [hc])),Nat.mul_comm]
theorem atoi_digits (l:List UInt8) (h:∀ c∈l,isDigit c=true) (hl:l≠[]):Lib.atoi l=some ((qe2 l:Nat):Int):=by
 cases l with
 | nil=>exact absurd rfl hl
 | cons c r =>
  have hc:isDigit c=true:=h c (by simp)
  have h45:(c==45)=false:=by
   by_cases he:c=45
   ·subst he; exact absurd hc (by decide)
   ·simpa using he
  have h43:(c==43)=false:=by
   by_cases he:c=43
   ·subst he; exact absurd hc (by decide)
   ·simpa using he
  simp only [Lib.atoi]
  rw [if_neg (by rw [h45]; decide),if_neg (by rw [h43]; decide)]
  unfold Lib.decNat
  rw [if_neg (by simp),qm8 _ h]
  rfl
theorem take_span (p:UInt8→Bool) (l:List UInt8):∀ c∈l.take (span p l),p c=true:=by
 induction l with
 | nil=>intro c hc; simp at hc
 | cons d r ih =>
  intro c hc
  cases hd:p d
  ·rw [q8m hd] at hc; simp at hc
  ·rw [q58 hd,List.take_succ_cons] at hc
   rcases List.mem_cons.1 hc with rfl | hc
   ·exact hd
   ·exact ih c hc
theorem decVal_lt (l:List UInt8) (h:∀ c∈l,isDigit c=true):qe2 l<10 ^ l.length:=by
 have H:∀ (l:List UInt8),(∀ c∈l,isDigit c=true)→∀ a,l.foldl (fun a c=>10*a+(c.toNat-48)) a<(a+1)*10 ^ l.length:=by
  intro l
  induction l with
  | nil=>intro _ a; simp
  | cons c r ih =>
   intro h a
   have hc:isDigit c=true:=h c (by simp)
   have h2':c.toNat≤57:=by
    unfold isDigit at hc
    rw [Bool.and_eq_true] at hc
    exact of_decide_eq_true hc.2
   simp only [List.foldl_cons,List.length_cons]
   have:=ih (fun c hc=>h c (by simp [hc])) (10*a+(c.toNat-48))
   calc _<(10*a+(c.toNat-48)+1)*10 ^ r.length:=this
    _≤((a+1)*10)*10 ^ r.length:=Nat.mul_le_mul_right _ (by omega)
    _=(a+1)*10 ^ (r.length+1):=by rw [Nat.pow_succ,Nat.mul_assoc,Nat.mul_comm 10]
 have:=H l h 0
 simpa [qe2] using this
theorem indexAny_in (l:List UInt8):(Lib.indexAny l [34,10]<0→(l.drop (span q3t l)).head? = none) ∧
  (0≤Lib.indexAny l [34,10]→span q3t l=(Lib.indexAny l [34,10]).toNat∧span q3t l<l.length∧(l[span q3t l]? = some 34∨l[span q3t l]? = some 10)):=by
 induction l with
 | nil=>exact ⟨fun _=>rfl,fun h=>absurd h (by decide)⟩
 | cons c r ih =>
  have hge:=Lib.indexAny_ge [34,10] r
  unfold Lib.indexAny
  cases hc:q3t c
  ·have hcon:([34,10]:List UInt8).contains c=true:=by
    have h1:∀ c:UInt8,([34,10]:List UInt8).contains c=!q3t c:=fun c=>by
     have h:=q7p (fun c=>([34,10]:List UInt8).contains c==!q3t c) (by decide +kernel) c
     rwa [beq_iff_eq] at h
    rw [h1,hc]; rfl
   rw [if_pos hcon,q8m hc]
   refine ⟨fun h=>absurd h (by decide),fun _=>⟨rfl,by simp,?_⟩⟩
   have:c=34∨c=10:=by simpa using hcon
   rcases this with rfl | rfl
   ·exact .inl rfl
   ·exact .inr rfl
  ·have hcon:([34,10]:List UInt8).contains c=false:=by
    have h1:∀ c:UInt8,([34,10]:List UInt8).contains c=!q3t c:=fun c=>by
     have h:=q7p (fun c=>([34,10]:List UInt8).contains c==!q3t c) (by decide +kernel) c
     rwa [beq_iff_eq] at h
    rw [h1,hc]; rfl
   rw [if_neg (by rw [hcon]; decide),q58 hc]
   by_cases hr:(Lib.indexAny r [34,10]==-1)=true
   ·rw [if_pos hr]
    have hr':Lib.indexAny r [34,10]=-1:=by simpa using hr
    exact ⟨fun _=>ih.1 (by omega),fun h=>absurd h (by decide)⟩
   ·rw [if_neg hr]
    have hr':Lib.indexAny r [34,10]≠-1:=by simpa using hr
    refine ⟨fun h=>by omega,fun _=>?_⟩
    obtain ⟨h1,h2,h3⟩:=ih.2 (by omega)
    refine ⟨by omega,by simpa using h2,by simpa using h3⟩
def Sc.out (r:Sc) (off:Nat):Value:=.agg #[.int .i64 r.kind,.int .i64 (if r.err=0 then (off:Int) else 0),.int .i64 r.n,.string (bs r.text)]
def Sc.fin (r:Sc) (off:Nat):Int:=if r.err=0 then (off+r.width:Nat) else 0
end Lx
theorem among_word:among [3,4,5]=Lx.isWord:=by
 funext c
 rw [Lx.cls_word]
 have h:∀ n:Nat,([3,4,5]:List Int).contains (n:Int)=(n==3||n==4||n==5):=by
  intro n
  rw [Bool.eq_iff_iff]
  simp
  omega
 exact h _
theorem among_digit:among [4]=Lx.isDigit:=by
 funext c
 rw [Lx.q65]
 have h:∀ n:Nat,([4]:List Int).contains (n:Int)=(n==4):=by
  intro n
  rw [Bool.eq_iff_iff]
  simp
  omega
 exact h _
theorem qmr (w:World) (bk:Nat) (hbk:bk=w.heap.size) (x y z:Int) (t:TypeId):∀ j,j<[x,y,z].length→(w.alloc (.cells #[.int .i64 x,.int .i64 y,.int .i64 z] t)).cell? ⟨bk,0+j,none⟩=some (.int .i64 ([x,y,z].getD j 0)):=by
 intro j hj
 subst hbk
 match j,hj with
 | 0,_=>simp [World.cell?_alloc_at]
 | 1,_=>simp [World.cell?_alloc_at]
 | 2,_=>simp [World.cell?_alloc_at]
set_option maxRecDepth 100000 in
set_option maxHeartbeats 1000000 in
theorem next_letter (b:Nat) (s:ByteArray) (i:Nat) (w:World) (hs:s.size≤20000) (hi:i<s.size) (hb:b<w.heap.size) (h:Scan w b s) (hc:Lx.cls s[i]=3) :
  Calls Tryz.prog 154 #[.pointer (some ⟨b,0,none⟩),.int .i64 i] w fun e w' =>
   e=.returned (.tuple #[(Lx.scan (s.data.toList.drop i)).out i,.int .i64 ((Lx.scan (s.data.toList.drop i)).fin i),.int .i64 (Lx.scan (s.data.toList.drop i)).err])∧Below w.heap.size w w':=by
 have hsc:=Lx.scan_letter s[i] (s.data.toList.drop (i+1)) hc
 have hd:=q4g s i hi
 rw [← hd] at hsc
 have HSC:=Lib.hid hsc; clear hsc
 have hle:=qia Lx.isWord (s.data.toList.drop i)
 rw [List.length_drop,← q0t] at hle
 have hc0:Lx.q2a (s.data.toList.drop i)=3:=by rw [hd]; exact hc
 have HC:=Lib.hid hc0
 clear hc hc0 hd
 have h0:=h.text
 go_enter Tryz.func154,Tryz.ntmps154
 go_wp2_with fail
 refine (q6g b s i _ (by omega) (by omega) (by exact h.alloc hb _)).mono ?_
 rintro e w' ⟨rfl,m1,rfl⟩
 rw [Int.toNat_natCast,HC.out]
 go_wp2_with fail
 refine (qdd b s i _ 3 3 [3,4,5] _ (by omega) (by omega) (by exact ((h.alloc hb _).drewN m1).alloc (by simp; omega) _) rfl (by omega) (by omega) (by exact qmr _ _ (by simp) 3 4 5 _)).mono ?_
 rintro e w' ⟨rfl,m2,rfl⟩
 rw [among_word]
 generalize Lx.span Lx.isWord (s.data.toList.drop i)=m at *
 by_cases hm:24<m
 ·go_wp2
  refine bodyPost_ret (v:=.tuple #[.agg #[.int .i64 0,.int .i64 0,.int .i64 0,.string { data:=#[] }],.int .i64 0,.int .i64 2]) (by simp [results,Tryz.results154,go_sem]) rfl ⟨?_,?_⟩
  ·rw [HSC.out,if_pos hm]; rfl
  ·exact q2k (q0e (q0e (q07 w) _) _) _
 ·have hx:=q3p s i (i+m)
  rw [Nat.add_sub_cancel_left] at hx
  go_wp2
  refine bodyPost_ret (v:=.tuple #[.agg #[.int .i64 1,.int .i64 i,.int .i64 0,.string (bs ((s.data.toList.drop i).take m))],.int .i64 (i+m:Nat),.int .i64 0]) ?_ rfl ⟨?_,?_⟩
  ·simp [results,Tryz.results154,go_sem]
  ·rw [HSC.out,if_neg hm]; rfl
  ·exact q2k (q0e (q0e (q07 w) _) _) _
theorem atoi_any (l:List UInt8) (w:World) (hl:l.length≤18) {n:Int} (h:Lib.atoi l=some n) :
  Calls Tryz.prog 185 #[.string (bs l)] w fun e w'=>e=.returned (.tuple #[.int .i64 n,.nilIface])∧Below w.heap.size w w':=by
 refine (Tryz.strconv_Atoi (bs l) n (by rw [qhz]; exact hl) (by rw [q2r]; exact h) w).mono ?_
 rintro e w' ⟨rfl,t,rfl⟩
 exact ⟨rfl,Joins.below_bytesWorld _ w _ t (Nat.le_refl _)⟩
set_option maxRecDepth 100000 in
set_option maxHeartbeats 2000000 in
theorem next_digit (b:Nat) (s:ByteArray) (i:Nat) (w:World) (hs:s.size≤20000) (hi:i<s.size) (hb:b<w.heap.size) (h:Scan w b s) (hc:Lx.cls s[i]=4) :
  Calls Tryz.prog 154 #[.pointer (some ⟨b,0,none⟩),.int .i64 i] w fun e w' =>
   e=.returned (.tuple #[(Lx.scan (s.data.toList.drop i)).out i,.int .i64 ((Lx.scan (s.data.toList.drop i)).fin i),.int .i64 (Lx.scan (s.data.toList.drop i)).err])∧Below w.heap.size w w':=by
 have hsc:=Lx.scan_digit s[i] (s.data.toList.drop (i+1)) hc
 have hd:=q4g s i hi
 have hp:Lx.isDigit s[i]=true:=by rw [Lx.q65,hc]; rfl
 have hpos:1≤Lx.span Lx.isDigit (s.data.toList.drop i):=by rw [hd,q58 hp]; omega
 rw [← hd] at hsc
 rw [List.drop_drop] at hsc
 have HSC:=Lib.hid hsc; clear hsc
 have hle:=qia Lx.isDigit (s.data.toList.drop i)
 rw [List.length_drop,← q0t] at hle
 have hc0:Lx.q2a (s.data.toList.drop i)=4:=by rw [hd]; exact hc
 have HC:=Lib.hid hc0
 have hdig:=Lx.take_span Lx.isDigit (s.data.toList.drop i)
 have HDIG:=Lib.hid hdig
 clear hc hc0 hd hdig hp
 have h0:=h.text
 go_enter Tryz.func154,Tryz.ntmps154
 go_wp2_with fail
 refine (q6g b s i _ (by omega) (by omega) (by exact h.alloc hb _)).mono ?_
 rintro e w' ⟨rfl,m1,rfl⟩
 rw [Int.toNat_natCast,HC.out]
 go_wp2_with fail
 refine (qdd b s i _ 1 1 [4] _ (by omega) (by omega) (by exact ((h.alloc hb _).alloc (by simp; omega) _).drewN m1) rfl (by omega) (by omega) (by exact qho _ _ (by simp) 4 _)).mono ?_
 rintro e w' ⟨rfl,m2,rfl⟩
 rw [among_digit]
 generalize Lx.span Lx.isDigit (s.data.toList.drop i)=m at *
 go_wp2_with fail
 refine (q6g b s (i+m) _ (by omega) (by omega) (by exact ((h.alloc hb _).alloc (by simp; omega) _).drewN _)).mono ?_
 rintro e w' ⟨rfl,m3,rfl⟩
 rw [show ((i:Int)+(m:Int)).toNat=i+m from by omega]
 generalize Lx.q2a (s.data.toList.drop (i+m))=c2 at *
 by_cases hm:13<m∨c2=3∨c2=5
 ·have hbad:(13<(m:Int))∨((c2:Int)==3)=true∨((c2:Int)==5)=true:=by
   rcases hm with hm | rfl | rfl
   ·left; omega
   ·right; left; rfl
   ·right; right; rfl
  have hsb:Lx.scan (s.data.toList.drop i)=Lx.bad 4:=by
   rw [HSC.out,if_pos]
   rcases hm with hm | rfl | rfl
   ·simp [hm]
   ·simp
   ·simp
  have HSB:=Lib.hid hsb
  clear hsb hm HSC
  have fin:∀ X:World,Below w.heap.size w X→(Ending.returned (.tuple #[.agg #[.int .i64 0,.int .i64 0,.int .i64 0,.string { data:=#[] }],.int .i64 0,.int .i64 4])=.returned (.tuple #[(Lx.scan (s.data.toList.drop i)).out i,.int .i64 ((Lx.scan (s.data.toList.drop i)).fin i),.int .i64 (Lx.scan (s.data.toList.drop i)).err]))∧Below w.heap.size w X:=fun X hX=>⟨by rw [HSB.out]; rfl,hX⟩
  have FIN:=Lib.hid fin
  clear fin
  by_cases h13:13<m
  ·clear hbad
   go_wp2
   refine bodyPost_ret (v:=.tuple #[.agg #[.int .i64 0,.int .i64 0,.int .i64 0,.string { data:=#[] }],.int .i64 0,.int .i64 4]) (by simp [results,Tryz.results154,go_sem]) rfl (FIN.out _ ?_)
   exact q2k (q0e (q0e (q07 w) _) _) _
  ·cases h3:((c2:Int)==3)
   ·have h5:((c2:Int)==5)=true:=by
     rcases hbad with hb' | hb' | hb'
     ·omega
     ·rw [h3] at hb'; cases hb'
     ·exact hb'
    clear hbad
    go_wp2
    refine bodyPost_ret (v:=.tuple #[.agg #[.int .i64 0,.int .i64 0,.int .i64 0,.string { data:=#[] }],.int .i64 0,.int .i64 4]) (by simp [results,Tryz.results154,go_sem]) rfl (FIN.out _ ?_)
    exact q2k (q0e (q0e (q07 w) _) _) _
   ·clear hbad
    go_wp2
    refine bodyPost_ret (v:=.tuple #[.agg #[.int .i64 0,.int .i64 0,.int .i64 0,.string { data:=#[] }],.int .i64 0,.int .i64 4]) (by simp [results,Tryz.results154,go_sem]) rfl (FIN.out _ ?_)
    exact q2k (q0e (q0e (q07 w) _) _) _
 ·have h13:m≤13:=by omega
  have h3:((c2:Int)==3)=false:=by rw [beq_eq_false_iff_ne]; omega
  have h5:((c2:Int)==5)=false:=by rw [beq_eq_false_iff_ne]; omega
  have hn13:(13<m)=False:=by simp; omega
  have hsc:=HSC.out
  have h3':(c2==3)=false:=by rw [beq_eq_false_iff_ne]; omega
  have h5':(c2==5)=false:=by rw [beq_eq_false_iff_ne]; omega
  rw [if_neg (by rw [h3',h5']; simp; omega)] at hsc
  clear HSC hm h3' h5' hn13
  have HSC:=Lib.hid hsc; clear hsc
  have hx:=q3p s i (i+m)
  rw [Nat.add_sub_cancel_left] at hx
  have hlen:((s.data.toList.drop i).take m).length=m:=by
   rw [List.length_take,List.length_drop,← q0t]
   omega
  have hat:=Lx.atoi_digits ((s.data.toList.drop i).take m) HDIG.out (by intro h; rw [h] at hlen; simp at hlen; omega)
  have hlt:=Lx.decVal_lt _ HDIG.out
  rw [hlen] at hlt
  have HAT:=Lib.hid hat
  clear hat
  go_wp2_with fail
  refine (atoi_any ((s.data.toList.drop i).take m) _ (by rw [hlen]; omega) HAT.out).mono ?_
  rintro e w3 ⟨rfl,hb3⟩
  have hS3:Scan w3 b s:=(((h.alloc hb _).alloc (by simp; omega) _).drewN _).below hb3 (by simp; omega)
  have hbelow:Below w.heap.size w w3:=q4c (q2k (q0e (q0e (q07 w) _) _) _) hb3
  have hblk:Blk w3 w.heap.size 167 #[.int .i64 0,.int .i64 0,.int .i64 0,.string { data:=#[] }] :=
   (((Blk.new w _ _).alloc _).drewN _).bel hb3
  have t0:=hS3.text
  have k0:=hblk.cell 0
  have k1:=hblk.cell 1
  have k2:=hblk.cell 2
  have k3:=hblk.cell 3
  have f0:=hblk.frozen 0
  have f1:=hblk.frozen 1
  have f2:=hblk.frozen 2
  have f3:=hblk.frozen 3
  have HB:=Lib.hid hbelow
  have HBLK:=Lib.hid hblk
  clear hb3 hbelow hblk hS3
  generalize Lx.qe2 ((s.data.toList.drop i).take m)=v at *
  go_wp2
  refine bodyPost_ret (q1h rfl _ _ w.heap.size 167 _ _ rfl ((((HBLK.out.set_ 0 _).set_ 1 _).set_ 2 _).set_ 3 _) Tryz.underlying167 rfl (by kernel_rfl)) rfl ⟨?_,?_⟩
  ·rw [HSC.out]; rfl
  ·exact q1i (q1i (q1i (q1i HB.out (Nat.le_refl _) _) (Nat.le_refl _) _) (Nat.le_refl _) _) (Nat.le_refl _) _
end Go.Proofs.YtfecgebhoondjaaGreatDoor

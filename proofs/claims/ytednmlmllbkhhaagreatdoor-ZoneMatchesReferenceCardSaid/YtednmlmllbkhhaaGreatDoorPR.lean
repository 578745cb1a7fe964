/-
  Several texts in one: ZrI, ZrK, RefBytes, RefName, ZrR, ZnE, ZnF, ZnP.
-/
import Derived.Test.YtednmlmllbkhhaaGreatDoorPP
import Derived.Test.YtednmlmllbkhhaaGreatDoorPQ
import Derived.Test.YtednmlmllbkhhaaGreatDoorPN
import Derived.Test.YtednmlmllbkhhaaGreatDoorPD
set_option linter.unusedVariables false
namespace Go.Proofs.YtednmlmllbkhhaaGreatDoor
open Go.RowKit R Geo Geo.Zn Zl
abbrev q7c (p:Nat) (x:List P2):Prop :=
 ((x.getD (p:Int).toNat ((0:Int),(0:Int))).1=(x.getD (p:Int).toNat ((0:Int),(0:Int))).1∧(x.getD (p:Int).toNat ((0:Int),(0:Int))).2=(x.getD (p:Int).toNat ((0:Int),(0:Int))).2∧True)
abbrev qaw (p:Nat) (p_1:Nat×P2) (x:List P2) (y:List P2):Prop :=
 (q36 x y (p:Int).toNat++List.take p_1.1 (q2j (q0p y (x.getD (p:Int).toNat ((0:Int),(0:Int))) (rAt x ((p:Int).toNat+(1:Nat)))))=q36 x y (p:Int).toNat++List.take p_1.1 (q2j (q0p y (x.getD (p:Int).toNat ((0:Int),(0:Int))) (rAt x ((p:Int).toNat+(1:Nat)))))∧True)
abbrev q77 (p:Nat) (x:List P2):Prop :=
 ((rAt x ((p:Int).toNat+(1:Nat))).1=(rAt x ((p:Int).toNat+(1:Nat))).1∧(rAt x ((p:Int).toNat+(1:Nat))).2=(rAt x ((p:Int).toNat+(1:Nat))).2∧True)
abbrev qdb (p:Nat) (p':Nat×P2) (p_2:Nat×P2) (x:List P2) (y:List P2):Prop :=
 (True∧(p_2.1:Int)+1=(p'.1:Int)∧x=x∧y=y∧(p:Int)=(p:Int)∧True∧True∧True∧True∧True)
set_option maxRecDepth 100000 in
theorem rgMid_vc (x y:List P2) (h:cRgMid.pre (x,y)) :
  (∃ (p':Nat),p'≤x.length∧(True∧(0:Int)=(p':Int)∧x=x∧y=y∧True)∧True∧(q36 x y p'=[]∧True)∧True∧True∧True∧True∧True∧True∧True)∧∀ (p:Nat),p≤x.length→bif decide ((p:Int)<(x.length:Int)) then (0≤(p:Int)∧(p:Int)<(x.length:Int))∧(x.length≤(1000:Nat)∧0≤(p:Int)∧(p:Int)<(x.length:Int))∧(∃ (p':Nat×P2),(q0p y (x.getD (p:Int).toNat ((0:Int),(0:Int))) (rAt x ((p:Int).toNat+(1:Nat))))[p'.1]? = some p'.2∧(True∧x=x∧y=y∧(p:Int)=(p:Int)∧True∧True∧True∧True)∧(((x.getD (p:Int).toNat ((0:Int),(0:Int))).1=p'.2.1∧(x.getD (p:Int).toNat ((0:Int),(0:Int))).2=p'.2.2∧True)∧(q7c p x)∧(q77 p x)∧True)∧(q36 x y p=q36 x y (p:Int).toNat++List.take p'.1 (q2j (q0p y (x.getD (p:Int).toNat ((0:Int),(0:Int))) (rAt x ((p:Int).toNat+(1:Nat)))))∧True)∧True∧True∧True∧True∧True∧True∧True)∧∀ (p_1:Nat×P2),(q0p y (x.getD (p:Int).toNat ((0:Int),(0:Int))) (rAt x ((p:Int).toNat+(1:Nat))))[p_1.1]? = some p_1.2→bif !(p_1.2.1==(rAt x ((p:Int).toNat+(1:Nat))).1&&(p_1.2.2==(rAt x ((p:Int).toNat+(1:Nat))).2&&true)) then (∃ (p':Nat×P2),(p'.1≤y.length∧q9m y p_1.2 (rAt x ((p:Int).toNat+(1:Nat))) p'.1 p'.2)∧(True∧(0:Int)=(p'.1:Int)∧x=x∧y=y∧(p:Int)=(p:Int)∧True∧True∧True∧True∧True)∧(((rAt x ((p:Int).toNat+(1:Nat))).1=p'.2.1∧(rAt x ((p:Int).toNat+(1:Nat))).2=p'.2.2∧True)∧(q7c p x)∧(q77 p x)∧(p_1.2.1=p_1.2.1∧p_1.2.2=p_1.2.2∧True)∧True)∧(qaw p p_1 x y)∧True∧True∧True∧True∧True∧True∧True)∧∀ (p_2:Nat×P2),p_2.1≤y.length∧q9m y p_1.2 (rAt x ((p:Int).toNat+(1:Nat))) p_2.1 p_2.2→bif decide ((p_2.1:Int)<(y.length:Int)) then (0≤(p_2.1:Int)∧(p_2.1:Int)<(y.length:Int))∧bif !((y.getD (p_2.1:Int).toNat ((0:Int),(0:Int))).1==p_1.2.1&&((y.getD (p_2.1:Int).toNat ((0:Int),(0:Int))).2==p_1.2.2&&true)) then True∧bif betI (y.getD (p_2.1:Int).toNat ((0:Int),(0:Int))) p_1.2 (rAt x ((p:Int).toNat+(1:Nat))) then True∧True∧bif decide (q0f p_1.2 (y.getD (p_2.1:Int).toNat ((0:Int),(0:Int)))<q0f p_1.2 p_2.2) then (zFit ((p_2.1:Int)+1))∧∃ (p':Nat×P2),(p'.1≤y.length∧q9m y p_1.2 (rAt x ((p:Int).toNat+(1:Nat))) p'.1 p'.2)∧y.length-p'.1<y.length-p_2.1∧(qdb p p' p_2 x y)∧(((y.getD (p_2.1:Int).toNat ((0:Int),(0:Int))).1=p'.2.1∧(y.getD (p_2.1:Int).toNat ((0:Int),(0:Int))).2=p'.2.2∧True)∧(q7c p x)∧(q77 p x)∧(p_1.2.1=p_1.2.1∧p_1.2.2=p_1.2.2∧True)∧True)∧(qaw p p_1 x y)∧True∧True∧True∧True∧True∧True∧True else (zFit ((p_2.1:Int)+1))∧∃ (p':Nat×P2),(p'.1≤y.length∧q9m y p_1.2 (rAt x ((p:Int).toNat+(1:Nat))) p'.1 p'.2)∧y.length-p'.1<y.length-p_2.1∧(qdb p p' p_2 x y)∧((p_2.2.1=p'.2.1∧p_2.2.2=p'.2.2∧True)∧(q7c p x)∧(q77 p x)∧(p_1.2.1=p_1.2.1∧p_1.2.2=p_1.2.2∧True)∧True)∧(qaw p p_1 x y)∧True∧True∧True∧True∧True∧True∧True else (zFit ((p_2.1:Int)+1))∧∃ (p':Nat×P2),(p'.1≤y.length∧q9m y p_1.2 (rAt x ((p:Int).toNat+(1:Nat))) p'.1 p'.2)∧y.length-p'.1<y.length-p_2.1∧(qdb p p' p_2 x y)∧((p_2.2.1=p'.2.1∧p_2.2.2=p'.2.2∧True)∧(q7c p x)∧(q77 p x)∧(p_1.2.1=p_1.2.1∧p_1.2.2=p_1.2.2∧True)∧True)∧(qaw p p_1 x y)∧True∧True∧True∧True∧True∧True∧True else (zFit ((p_2.1:Int)+1))∧∃ (p':Nat×P2),(p'.1≤y.length∧q9m y p_1.2 (rAt x ((p:Int).toNat+(1:Nat))) p'.1 p'.2)∧y.length-p'.1<y.length-p_2.1∧(qdb p p' p_2 x y)∧((p_2.2.1=p'.2.1∧p_2.2.2=p'.2.2∧True)∧(q7c p x)∧(q77 p x)∧(p_1.2.1=p_1.2.1∧p_1.2.2=p_1.2.2∧True)∧True)∧(qaw p p_1 x y)∧True∧True∧True∧True∧True∧True∧True else (zFit (p_1.2.1+p_2.2.1))∧(zFit (p_1.2.2+p_2.2.2))∧((q36 x y (p:Int).toNat++List.take p_1.1 (q2j (q0p y (x.getD (p:Int).toNat ((0:Int),(0:Int))) (rAt x ((p:Int).toNat+(1:Nat)))))).length+[(p_1.2.1+p_2.2.1,p_1.2.2+p_2.2.2)].length)*(16:Nat)≤(140737488355328:Nat)∧∃ (p':Nat×P2),(q0p y (x.getD (p:Int).toNat ((0:Int),(0:Int))) (rAt x ((p:Int).toNat+(1:Nat))))[p'.1]? = some p'.2∧(q0p y (x.getD (p:Int).toNat ((0:Int),(0:Int))) (rAt x ((p:Int).toNat+(1:Nat)))).length-p'.1<(q0p y (x.getD (p:Int).toNat ((0:Int),(0:Int))) (rAt x ((p:Int).toNat+(1:Nat)))).length-p_1.1∧(True∧x=x∧y=y∧(p:Int)=(p:Int)∧True∧True∧True∧True)∧((p_2.2.1=p'.2.1∧p_2.2.2=p'.2.2∧True)∧(q7c p x)∧(q77 p x)∧True)∧(q36 x y (p:Int).toNat++List.take p_1.1 (q2j (q0p y (x.getD (p:Int).toNat ((0:Int),(0:Int))) (rAt x ((p:Int).toNat+(1:Nat)))))++[(p_1.2.1+p_2.2.1,p_1.2.2+p_2.2.2)]=q36 x y (p:Int).toNat++List.take p'.1 (q2j (q0p y (x.getD (p:Int).toNat ((0:Int),(0:Int))) (rAt x ((p:Int).toNat+(1:Nat)))))∧True)∧True∧True∧True∧True∧True∧True∧True else (zFit ((p:Int)+1))∧∃ (p':Nat),p'≤x.length∧x.length-p'<x.length-p∧(True∧(p:Int)+1=(p':Int)∧x=x∧y=y∧True)∧True∧(q36 x y (p:Int).toNat++List.take p_1.1 (q2j (q0p y (x.getD (p:Int).toNat ((0:Int),(0:Int))) (rAt x ((p:Int).toNat+(1:Nat)))))=q36 x y p'∧True)∧True∧True∧True∧True∧True∧True∧True else q36 x y p=q02 x y:=by
 delta q7c qaw q77 qdb zFit
 have h:(List.length x≤12∧q05 x=true)∧List.length y≤12∧q05 y=true:=h;obtain ⟨⟨hx12,hvx⟩,hy12,hvy⟩:=h;have hx:=q7u hvx;simp only [Int.toNat_natCast,true_and,and_true];refine ⟨⟨0,Nat.zero_le _,rfl,by simp [q36]⟩,λp hp=>?_⟩
 by_cases hlt:p<x.length
 ·simp only [at0 x hlt]
  have ha:=hx.on' p;have hb:=hx.on' (p+1);have hab:=hx.ne p;have hm1:=qfg x y p;have hm2:=q9t hvx hvy hy12 p;have hm3:=q9t hvx hvy hy12 (p+1);generalize rAt x p=a at *
  generalize rAt x (p+1)=b at *
  rw [show decide ((p:Int)<(x.length:Int))=true from decide_eq_true (by omega)]
  simp only [cond_true];have hs0:=stop_first (y:=y) ha hb hab;refine ⟨⟨by omega,by omega⟩,⟨by omega,by omega,by omega⟩,⟨(0,a),hs0,⟨rfl,rfl⟩,by simp⟩,?_⟩
  rintro ⟨j,s⟩ hj;dsimp only at hj ⊢;by_cases hsb:s=b
  ·subst hsb
   rw [show (s.1==s.1&&(s.2==s.2&&true))=true by simp]
   have hl:=stop_last ha hb hab hj;refine ⟨⟨by omega,by omega⟩,p+1,by omega,by omega,by omega,?_⟩
   rw [hm1,List.take_of_length_le];rw [q95];omega
  ·rw [show (s.1==b.1&&(s.2==b.2&&true))=false from by
    rw [← Bool.not_eq_true];intro h;simp only [Bool.and_eq_true,beq_iff_eq,and_true] at h;exact hsb (Prod.ext h.1 h.2)]
   refine ⟨⟨(0,b),⟨Nat.zero_le _,.inl rfl,λj p h=>absurd h (Nat.not_lt_zero _)⟩,rfl,rfl,rfl⟩,?_⟩
   rintro ⟨k,t⟩ ⟨hk,hn⟩;dsimp only at hk hn ⊢;by_cases hky:k<y.length
   ·rw [show decide ((k:Int)<(y.length:Int))=true from decide_eq_true (by omega)]
    refine ⟨⟨by omega,by omega⟩,?_⟩
    have hg:y[k]? = some (y.getD k (0,0)):=by rw [List.getD_eq_getElem?_getD,List.getElem?_eq_getElem hky];rfl
    obtain ⟨q,hq⟩:∃ q,y.getD k (0,0)=q:=⟨_,rfl⟩;simp only [hq] at hg ⊢;have keep:(q≠s→betI q s b=true→q0f s t≤q0f s q)→q9m y s b (k+1) t:=λh=>by
     refine ⟨hn.1.imp id λ⟨i,h1,h2⟩=>⟨i,by omega,h2⟩,λi r hi hr h1 h2=>?_⟩
     by_cases hik:i=k
     ·subst hik
      rw [hg] at hr;obtain rfl:=Option.some.inj hr;exact h h1 h2
     ·exact hn.2 i r (by omega) hr h1 h2
    have fin:∀ u:P2,q9m y s b (k+1) u→(((-9223372036854775808:Int)≤(k:Int)+1∧(k:Int)+1≤9223372036854775807)∧∃ p':Nat×P2,(p'.1≤y.length∧q9m y s b p'.1 p'.2)∧y.length-p'.1<y.length-k∧(k:Int)+1=(p'.1:Int)∧u.1=p'.2.1∧u.2=p'.2.2):=λu hu =>
     ⟨⟨by omega,by omega⟩,(k+1,u),⟨hky,hu⟩,by dsimp only;omega,by dsimp only;omega,rfl,rfl⟩
    by_cases hqs:q=s
    ·subst hqs
     rw [show (q.1==q.1&&(q.2==q.2&&true))=true by simp]
     exact fin t (keep λh=>absurd rfl h)
    ·rw [show (q.1==s.1&&(q.2==s.2&&true))=false from by
      rw [← Bool.not_eq_true];intro h;simp only [Bool.and_eq_true,beq_iff_eq,and_true] at h;exact hqs (Prod.ext h.1 h.2)]
     cases hb1:betI q s b
     ·exact fin t (keep λ_ h=>by rw [hb1] at h;cases h)
     ·by_cases hd:q0f s q<q0f s t
      ·simp only [hd,decide_true]
       refine fin q ⟨.inr ⟨k,by omega,hg,hqs,hb1⟩,λi r hi hr h1 h2=>?_⟩
       by_cases hik:i=k
       ·subst hik
        rw [hg] at hr;obtain rfl:=Option.some.inj hr;exact Int.le_refl _
       ·exact Int.le_trans (Int.le_of_lt hd) (hn.2 i r (by omega) hr h1 h2)
      ·simp only [hd,decide_false]
       exact fin t (keep λ_ _=>by omega)
   ·rw [show decide ((k:Int)<(y.length:Int))=false from decide_eq_false (by omega)]
    have hke:k=y.length:=by omega
    subst hke;have hnx:=near_next ha hb hab hj hsb hn.1 hn.2;have H:=q43 (y:=y) ha hb hab;have os:=q0x (q4s H ha hb hab (List.mem_of_getElem? hj)).1;have ot:=q0x (q4s H ha hb hab (List.mem_of_getElem? hnx)).1;obtain ⟨hl1,e1⟩:=List.getElem?_eq_some_iff.1 hj;obtain ⟨hl2,e2⟩:=List.getElem?_eq_some_iff.1 hnx;have hml:=q95 (q0p y a b);rw [hm1,List.length_append,hml] at hm3;refine ⟨⟨by omega,by omega⟩,⟨by omega,by omega⟩,?_,(j+1,t),hnx,by dsimp only;omega,⟨rfl,rfl⟩,?_⟩
    ·rw [List.length_append,List.length_take,List.length_singleton]
     omega
    ·dsimp only
     rw [mids_take _ hl2,← List.append_assoc,List.getD_eq_getElem?_getD,List.getD_eq_getElem?_getD,hj,hnx];rfl
 ·rw [show decide ((p:Int)<(x.length:Int))=false from decide_eq_false (by omega)]
  have hpe:p=x.length:=by omega
  subst hpe;rfl
end Go.Proofs.YtednmlmllbkhhaaGreatDoor
namespace Go.Proofs.YtednmlmllbkhhaaGreatDoor
open Go.RowKit R Geo.Zn Zl
theorem qjv {α:Type} (l:List α) (p:α→Bool):(((l.filter p).length:Int)==0)=!l.any p:=by
 rw [Bool.eq_iff_iff];simp
theorem cnt_pos {α:Type} (l:List α) (p:α→Bool):decide (0<((l.filter p).length:Int))=l.any p:=by
 rw [Bool.eq_iff_iff];simp [List.length_pos_iff_exists_mem]
theorem in_eq {r:List P2} (hv:q05 r=true):(λm:P2=>q1g r m==(1:Int))=q0w r:=by
 funext m;rw [Bool.eq_iff_iff,beq_iff_eq];exact (place_in hv m).1
theorem out_eq {r:List P2} (hv:q05 r=true):(λm:P2=>q1g r m==(-1:Int))=q0m r:=by
 funext m;rw [Bool.eq_iff_iff,beq_iff_eq];exact (place_in hv m).2
set_option maxRecDepth 100000 in
theorem rgCount_vc (x y:List P2) (n:Int) (h:qez.pre (x,y,n)) :
    ((x.length≤(12:Nat)∧q05 x=true)∧y.length≤(12:Nat)∧q05 y=true)∧(∃ (p':Nat),p'≤(q02 x y).length∧((0:Int)=(↑(List.filter (λ(m:P2)=>q1g y m ==
    n) (List.take p' (q02 x y))).length:Int)∧(0:Int)=(p':Int)∧y=y∧n=n∧q02 x y=q02 x y∧True)∧True∧True∧True∧True∧True∧True∧True∧True ∧
    True)∧∀ (p:Nat),p≤(q02 x y).length→bif decide ((p:Int)<(↑(q02 x y).length:Int)) then ((0:Int)≤(p:Int)∧(p:Int)<(↑(q02 x y).length:Int)) ∧
    (q0t y∧q0r ((q02 x y).getD (p:Int).toNat ((0:Int),(0:Int))))∧bif q1g y ((q02 x y).getD (p:Int).toNat ((0:Int),(0:Int)))==n then
    ((-9223372036854775808:Int)≤(↑(List.filter (λ(m:P2)=>q1g y m==n) (List.take p (q02 x y))).length:Int)+(1:Int)∧(↑(List.filter (λ(m:P2)=>q1g y m==n)
    (List.take p (q02 x y))).length:Int)+(1:Int)≤(9223372036854775807:Int))∧((-9223372036854775808:Int)≤(p:Int)+(1:Int)∧(p:Int)+(1:Int) ≤
    (9223372036854775807:Int))∧∃ (p':Nat),p'≤(q02 x y).length∧(q02 x y).length-p'<(q02 x y).length-p∧((↑(List.filter (λ(m:P2)=>q1g y m==n)
    (List.take p (q02 x y))).length:Int)+(1:Int)=(↑(List.filter (λ(m:P2)=>q1g y m==n) (List.take p' (q02 x y))).length:Int)∧(p:Int)+(1:Int)=(p':Int)
    ∧ y=y∧n=n∧q02 x y=q02 x y∧True)∧True∧True∧True∧True∧True∧True∧True∧True∧True else ((-9223372036854775808:Int)≤(p:Int)+(1:Int)∧(p:Int)
    + (1:Int)≤(9223372036854775807:Int))∧∃ (p':Nat),p'≤(q02 x y).length∧(q02 x y).length-p'<(q02 x y).length-p∧((↑(List.filter (λ(m:P2)=>q1g y m
    == n) (List.take p (q02 x y))).length:Int)=(↑(List.filter (λ(m:P2)=>q1g y m==n) (List.take p' (q02 x y))).length:Int)∧(p:Int)+(1:Int)=(p':Int)∧y =
    y∧n=n∧q02 x y=q02 x y∧True)∧True∧True∧True∧True∧True∧True∧True∧True∧True else (↑(List.filter (λ(m:P2)=>q1g y m==n) (List.take p (q02 x
    y))).length:Int)=(↑(List.filter (λ(m:P2)=>q1g y m==n) (q02 x y)).length:Int)
     := by
  obtain ⟨⟨h1,v1⟩,h2,v2⟩:(x.length≤12∧q05 x=true)∧y.length≤12∧q05 y=true:=h;simp only [and_true,eq_self,and_self];have hml:=qda v1 v2 h2;refine ⟨⟨⟨h1,v1⟩,h2,v2⟩,⟨0,Nat.zero_le _,rfl,rfl⟩,λk hk=>bifP (λhb=>?_) λhb=>?_⟩
  · have hkl:k<(q02 x y).length:=by have:=of_decide_eq_true hb;omega
    have et:=q2d (q02 x y) z0 k hkl;have hh:=qbv v1 v2 (q1l (q02 x y) z0 k hkl);have hfl:=List.length_filter_le (λm=>q1g y m==n) ((q02 x y).take k)
    have htl:=List.length_take_le' k (q02 x y);simp only [Int.toNat_natCast];refine ⟨by omega,⟨⟨(q1q v2).2.1,(q1q v2).2.2⟩,hh⟩,bifP (λc=>⟨by omega,by omega,k+1,by omega,by omega,?_,by omega⟩) λc=>⟨by omega,k+1,by omega,by omega,?_,by omega⟩⟩
    · rw [et,List.filter_append,List.filter_cons,if_pos c,List.length_append];rfl
    · rw [et,List.filter_append,List.filter_cons,if_neg (by rw [Bool.not_eq_true];exact c),List.length_append];rfl
  · have:k=(q02 x y).length:=by have:=of_decide_eq_false hb;omega
    subst this;rw [List.take_length]
set_option maxRecDepth 100000 in
theorem rgWithin_vc (x y:List P2) (h:qg2.pre (x,y)) :
    x.length≤(1000:Nat)∧bif q05 x then y.length≤(1000:Nat)∧bif q05 y then (q0t x∧q0t y)∧bif !q1t x y then (q6k x∧q6k y)∧((↑(List.filter (λ(m:P2)
    => q1g y m==(-1:Int)) (q02 x y)).length:Int)==(0:Int))=q0i x y else false=q0i x y else false=q0i x y else false=q0i x y
     := by
  obtain ⟨h1,h2⟩:x.length≤12∧y.length≤12:=h;have e:q0i x y=(q05 x&&(q05 y&&(!q1t x y&&!(q02 x y).any (q0m y)))):=rfl;rw [e];refine ⟨by omega,bifP (λv1=>⟨by omega,bifP (λv2=>⟨⟨⟨(q1q v1).2.1,(q1q v1).2.2⟩,(q1q v2).2.1,(q1q v2).2.2⟩,bifP (λc=>⟨⟨⟨h1,v1⟩,h2,v2⟩,?_⟩) λc=>?_⟩) λv2=>?_⟩) λv1=>?_⟩
  · rw [v1,v2,c,qjv,out_eq v2];rfl
  · rw [c,Bool.false_and,Bool.and_false,Bool.and_false]
  · rw [v2,Bool.false_and,Bool.and_false]
  · rw [v1,Bool.false_and]
set_option maxRecDepth 100000 in
theorem rgApart_vc (x y:List P2) (h:qjt.pre (x,y)) :
    x.length≤(1000:Nat)∧bif !q05 x then false=q1k x y else y.length≤(1000:Nat)∧bif !q05 y then false=q1k x y else (q0t x∧q0t y)∧bif q1t x y then false
    = q1k x y else (q6k x∧q6k y)∧bif (↑(List.filter (λ(m:P2)=>q1g y m==(1:Int)) (q02 x y)).length:Int)==(0:Int) then (q6k y∧q6k x)∧bif
    (↑(List.filter (λ(m:P2)=>q1g x m==(1:Int)) (q02 y x)).length:Int)==(0:Int) then (q6k x∧q6k y)∧decide ((0:Int)<(↑(List.filter (λ(m:P2)=>q1g y
    m==(-1:Int)) (q02 x y)).length:Int))=q1k x y else false=q1k x y else false=q1k x y
     := by
  obtain ⟨h1,h2⟩:x.length≤12∧y.length≤12:=h;have e:q1k x y=(q05 x&&(q05 y&&(!q1t x y&&((q02 x y).any (q0m y)&&(!(q02 x y).any (q0w y)&&!(q02 y x).any (q0w x)))))):=rfl;rw [e];refine ⟨by omega,bifP (λv1=>?_) λv1=>⟨by omega,bifP (λv2=>?_) λv2=>?_⟩⟩
  · rw [show q05 x=false from cast (Bool.not_eq_true' _) v1,Bool.false_and]
  · rw [show q05 y=false from cast (Bool.not_eq_true' _) v2,Bool.false_and,Bool.and_false]
  have v1:q05 x=true:=cast (Bool.not_eq_false' _) v1;have v2:q05 y=true:=cast (Bool.not_eq_false' _) v2;rw [v1,v2];refine ⟨⟨⟨(q1q v1).2.1,(q1q v1).2.2⟩,(q1q v2).2.1,(q1q v2).2.2⟩,bifP (λc=>by rw [c];rfl) λc=>⟨⟨⟨h1,v1⟩,h2,v2⟩,?_⟩⟩
  rw [qjv,qjv,cnt_pos,out_eq v2,in_eq v2,in_eq v1,c];refine bifP (λc1=>⟨⟨⟨h2,v2⟩,h1,v1⟩,bifP (λc2=>⟨⟨⟨h1,v1⟩,h2,v2⟩,?_⟩) λc2=>?_⟩) λc1=>?_
  · rw [c1,c2];simp
  · rw [c2];simp
  · rw [c1];simp
end Go.Proofs.YtednmlmllbkhhaaGreatDoor
namespace Go.Proofs.YtednmlmllbkhhaaGreatDoor
open Go.RowKit
attribute [local go_sem] q4w q3q q45
theorem letter_nat (c:UInt8):Lx.q19 c=((decide ((97:Int)≤c.toNat)&&decide ((c.toNat:Int)≤122))||(decide ((65:Int)≤c.toNat)&&decide ((c.toNat:Int)≤90))):=by
 have h:=Lx.q47 (λc=>Lx.q19 c==((decide ((97:Int)≤c.toNat)&&decide ((c.toNat:Int)≤122))||(decide ((65:Int)≤c.toNat)&&decide ((c.toNat:Int)≤90)))) (by decide +kernel) c
 rwa [beq_iff_eq] at h
theorem digit_nat (c:UInt8):Lx.isDigit c=(decide ((48:Int)≤c.toNat)&&decide ((c.toNat:Int)≤57)):=by
 have h:=Lx.q47 (λc=>Lx.isDigit c==(decide ((48:Int)≤c.toNat)&&decide ((c.toNat:Int)≤57))) (by decide +kernel) c
 rwa [beq_iff_eq] at h
theorem word_nat (c:UInt8):Lx.isWord c=(Lx.q19 c||(Lx.isDigit c||((c.toNat:Int)==95))):=by
 have h:=Lx.q47 (λc=>Lx.isWord c==(Lx.q19 c||(Lx.isDigit c||((c.toNat:Int)==95)))) (by decide +kernel) c
 rwa [beq_iff_eq] at h
theorem q9p (c:UInt8) (w:World):Calls Tryz.prog 49 #[.int .u8 c.toNat] w λe w'=>e=.returned (.bool (Lx.q19 c))∧w'=w:=by
 rw [letter_nat];generalize (c.toNat:Int)=x;by_cases h1:(97:Int)≤x <;> by_cases h2:x≤122 <;> by_cases h3:(65:Int)≤x <;> by_cases h4:x≤90 <;> first | (exfalso;omega) | skip
 all_goals
  simp only [h1,h2,h3,h4,decide_true,decide_false,Bool.and_true,Bool.and_false,Bool.or_true,Bool.or_false,Bool.true_and,Bool.false_and]
  go_enter Tryz.func49,Tryz.ntmps49
  go_wp2
  go_ret
  exact ⟨rfl,rfl⟩
theorem qkd (c:UInt8) (w:World):Calls Tryz.prog 74 #[.int .u8 c.toNat] w λe w'=>e=.returned (.bool (Lx.isDigit c))∧w'=w:=by
 rw [digit_nat];generalize (c.toNat:Int)=x;by_cases h1:(48:Int)≤x <;> by_cases h2:x≤57 <;> first | (exfalso;omega) | skip
 all_goals
  simp only [h1,h2,decide_true,decide_false,Bool.and_true,Bool.and_false,Bool.true_and,Bool.false_and]
  go_enter Tryz.func74,Tryz.ntmps74
  go_wp2
  go_ret
  exact ⟨rfl,rfl⟩
theorem rword_any (c:UInt8) (w:World):Calls Tryz.prog 48 #[.int .u8 c.toNat] w λe w'=>e=.returned (.bool (Lx.isWord c))∧w'=w:=by
 rw [word_nat];cases hl:Lx.q19 c
 ·cases hd:Lx.isDigit c
  ·rcases Bool.eq_false_or_eq_true ((c.toNat:Int)==95) with h5 | h5
   all_goals
    rw [h5]
    go_enter Tryz.func48,Tryz.ntmps48
    go_wp2_with fail
    refine (q9p c _).mono ?_;rintro e w' ⟨rfl,rfl⟩;rw [hl]
    go_wp2_with fail
    refine (qkd c _).mono ?_;rintro e w' ⟨rfl,rfl⟩;rw [hd]
    go_wp2
    go_ret
    exact ⟨rfl,rfl⟩
  ·go_enter Tryz.func48,Tryz.ntmps48
   go_wp2_with fail
   refine (q9p c _).mono ?_;rintro e w' ⟨rfl,rfl⟩;rw [hl]
   go_wp2_with fail
   refine (qkd c _).mono ?_;rintro e w' ⟨rfl,rfl⟩;rw [hd]
   go_wp2
   go_ret
   exact ⟨rfl,rfl⟩
 ·go_enter Tryz.func48,Tryz.ntmps48
  go_wp2_with fail
  refine (q9p c _).mono ?_;rintro e w' ⟨rfl,rfl⟩;rw [hl]
  go_wp2
  go_ret
  exact ⟨rfl,rfl⟩
end Go.Proofs.YtednmlmllbkhhaaGreatDoor
namespace Go.Proofs.YtednmlmllbkhhaaGreatDoor
open Go.RowKit
attribute [local go_sem] q4w q3q q45 Later.cell Later.frozen wrap64_nat wrap64_add wrap64_succ
set_option maxRecDepth 100000 in
set_option maxHeartbeats 1000000 in
theorem rname_any (s:ByteArray) (w:World) (hs:s.size≤9223372036854775807):Calls Tryz.prog 26 #[.string s] w λe w'=>e=.returned (.bool (Lx.q03 s.data.toList))∧w'=w:=by
 go_enter Tryz.func26,Tryz.ntmps26
 go_wp2
 go_loop [3] (λi=>∃ k:Nat,k≤s.size∧i=.int .i64 k∧s.data.toList.all Lx.isWord=(s.data.toList.drop k).all Lx.isWord) (λi=>s.size-(intOf i).toNat)
 case atStart=>exact ⟨0,by omega,rfl,rfl⟩
 case round =>
  obtain ⟨k,hk,rfl,hc⟩:=hrel;have HC:=Lib.hid hc;clear hc;by_cases hlt:k<s.size
  ·have hd:=q1r s k hlt
   have HD:=Lib.hid hd;clear hd;have hb:s[k].toNat<256:=UInt8.toNat_lt s[k]
   go_wp2_with fail
   refine (rword_any s[k] _).mono ?_;rintro e w' ⟨rfl,rfl⟩;cases hwd:Lx.isWord s[k]
   ·have HWD:=Lib.hid hwd
    clear hwd
    go_wp2
    go_ret
    refine ⟨?_,rfl⟩;refine qew ?_;unfold Lx.q03;rw [HC.out,HD.out,List.all_cons,HWD.out];rfl
   ·have HWD:=Lib.hid hwd
    clear hwd
    go_wp2
    go_round
    case rel =>
     refine ⟨k+1,by omega,by go_num,?_⟩
     rw [HC.out,HD.out,List.all_cons,HWD.out];rfl
    case measure=>simp [intOf];omega
  ·have hd:s.data.toList.drop k=[]:=List.drop_eq_nil_of_le (by rw [← q0l];omega)
   have hall:s.data.toList.all Lx.isWord=true:=by rw [HC.out,hd];rfl
   have HA:=Lib.hid hall;have HSL:=Lib.hid (q0l s);clear hd hall HC;by_cases h0:0<s.size
   ·by_cases h24:s.size≤24
    ·have hdg:=q1r s 0 h0
     rw [List.drop_zero] at hdg;have HD:=Lib.hid hdg;clear hdg;have hb:s[0].toNat<256:=UInt8.toNat_lt s[0]
     go_wp2_with fail
     refine (q9p s[0] _).mono ?_;rintro e w' ⟨rfl,rfl⟩;have hfin:Lx.q03 s.data.toList=Lx.q19 s[0]:=by
      have h1:decide (0<s.data.toList.length)=true:=by rw [decide_eq_true_eq,← HSL.out];exact h0
      have h2:decide (s.data.toList.length≤24)=true:=by rw [decide_eq_true_eq,← HSL.out];exact h24
      unfold Lx.q03;rw [HA.out,h1,h2,HD.out];rfl
     have HF:=Lib.hid hfin;clear hfin
     go_wp2
     go_ret
     exact ⟨qew HF.out.symm,rfl⟩
    ·have hfin:Lx.q03 s.data.toList=false:=by
      have h2:decide (s.data.toList.length≤24)=false:=by rw [decide_eq_false_iff_not,← HSL.out];exact h24
      unfold Lx.q03;rw [HA.out,h2];simp
     have HF:=Lib.hid hfin;clear hfin
     go_wp2
     go_ret
     exact ⟨qew HF.out.symm,rfl⟩
   ·have hfin:Lx.q03 s.data.toList=false:=by
     have h1:decide (0<s.data.toList.length)=false:=by rw [decide_eq_false_iff_not,← HSL.out];exact h0
     unfold Lx.q03;rw [HA.out,h1];simp
    have HF:=Lib.hid hfin;clear hfin
    go_wp2
    go_ret
    exact ⟨qew HF.out.symm,rfl⟩
end Go.Proofs.YtednmlmllbkhhaaGreatDoor
namespace Go.Proofs.YtednmlmllbkhhaaGreatDoor
open Go.RowKit R Geo.Zn Zl
theorem nameG_holds:cNameG.Holds Tryz.prog:=qlb Tryz.func26 (by kernel_rfl) (by kernel_rfl) λs w h=>(rname_any (bs s) w (by rw [qhr];omega)).mono λe w' ⟨he,hw⟩=>⟨he,hw▸q06 w⟩
set_option maxRecDepth 100000 in
theorem rgMid_holds:cRgMid.Holds Tryz.prog:=by
 refine q0h (cons:=[q9h,cRfBet,cRfDist]) Tryz.func85 (by kernel_rfl) (by kernel_rfl) mixed (by kernel_rfl) (all_cons q62 (all_cons qi6 (all_cons rfDist_holds all_nil))) (λp=>anRgMid p.1 p.2) λp hp=>?_
 obtain ⟨x,y⟩:=p;refine cast ?_ (rgMid_vc x y hp)
 kernel_rfl
set_option maxRecDepth 100000 in
theorem qfx:qez.Holds Tryz.prog:=by
 refine q0h (cons:=[cRgMid,qdz]) Tryz.func61 (by kernel_rfl) (by kernel_rfl) mixed (by kernel_rfl) (all_cons rgMid_holds (all_cons qfl all_nil)) (λp=>anRgCount p.1 p.2.1 p.2.2) λp hp=>?_
 obtain ⟨x,y,n⟩:=p;refine cast ?_ (rgCount_vc x y n hp)
 kernel_rfl
set_option maxRecDepth 100000 in
theorem ql9:qg2.Holds Tryz.prog:=by
 refine q0h (cons:=[q97,qaj,qez]) Tryz.func36 (by kernel_rfl) (by kernel_rfl) mixed (by kernel_rfl) (all_cons q6v (all_cons qbz (all_cons qfx all_nil))) (λ_=>[]) λp hp=>?_
 obtain ⟨x,y⟩:=p;refine cast ?_ (rgWithin_vc x y hp)
 kernel_rfl
set_option maxRecDepth 100000 in
theorem qlj:qjt.Holds Tryz.prog:=by
 refine q0h (cons:=[q97,qaj,qez]) Tryz.func32 (by kernel_rfl) (by kernel_rfl) mixed (by kernel_rfl) (all_cons q6v (all_cons qbz (all_cons qfx all_nil))) (λ_=>[]) λp hp=>?_
 obtain ⟨x,y⟩:=p;refine cast ?_ (rgApart_vc x y hp)
 kernel_rfl
set_option maxRecDepth 100000 in
theorem q7t:qdm.Holds Tryz.prog:=by
 refine q0h (cons:=[]) Tryz.func20 (by kernel_rfl) (by kernel_rfl) mixed (by kernel_rfl) all_nil (λ_=>[]) λp hp=>?_
 refine cast ?_ (rzKind_vc p)
 kernel_rfl
set_option maxRecDepth 100000 in
theorem q6r:q73.Holds Tryz.prog:=by
 refine q0h (cons:=[cNameG,qdm,q97]) Tryz.func11 (by kernel_rfl) (by kernel_rfl) mixed (by kernel_rfl) (all_cons nameG_holds (all_cons q7t (all_cons q6v all_nil))) (λp=>anRzValid p) λp hp=>?_
 refine cast ?_ (rzValid_vc p hp)
 kernel_rfl
set_option maxRecDepth 100000 in
theorem rzPut_holds:cRzPut.Holds Tryz.prog:=by
 refine q0h (cons:=[]) Tryz.func42 (by kernel_rfl) (by kernel_rfl) mixed (by kernel_rfl) all_nil (λp=>anRzPut p.1 p.2) λp hp=>?_
 obtain ⟨l,s⟩:=p;refine cast ?_ (rzPut_vc l s hp)
 kernel_rfl
set_option maxRecDepth 100000 in
theorem qkh:cRzAt.Holds Tryz.prog:=by
 refine q0h (cons:=[qjm,cRzPut]) Tryz.func22 (by kernel_rfl) (by kernel_rfl) mixed (by kernel_rfl) (all_cons qls (all_cons rzPut_holds all_nil)) (λp=>anRzAt p.1 p.2.1 p.2.2.1 p.2.2.2) λp hp=>?_
 obtain ⟨l,n,⟨x,y⟩,m⟩:=p;refine cast ?_ (rzAt_vc l n x y m hp)
 kernel_rfl
set_option maxRecDepth 100000 in
theorem qir:cRzAll.Holds Tryz.prog:=by
 refine q0h (cons:=[q73,qdm,cRfOn,cRzAt]) Tryz.func7 (by kernel_rfl) (by kernel_rfl) mixed (by kernel_rfl) (all_cons q6r (all_cons q7t (all_cons q5b (all_cons qkh all_nil)))) (λ_=>[]) λp hp=>?_
 obtain ⟨l,n,x,y⟩:=p;refine cast ?_ (rzAll_vc l n x y hp)
 kernel_rfl
set_option maxRecDepth 100000 in
theorem rzOne_holds:cRzOne.Holds Tryz.prog:=by
 refine q0h (cons:=[cRzAll,cRzAt]) Tryz.func9 (by kernel_rfl) (by kernel_rfl) mixed (by kernel_rfl) (all_cons qir (all_cons qkh all_nil)) (λ_=>[]) λp hp=>?_
 obtain ⟨l,n,x,y⟩:=p;refine cast ?_ (rzOne_vc l n x y hp)
 kernel_rfl
set_option maxRecDepth 100000 in
theorem qlo:qei.Holds Tryz.prog:=by
 refine q0h (cons:=[q73,qdm,qjt]) Tryz.func14 (by kernel_rfl) (by kernel_rfl) mixed (by kernel_rfl) (all_cons q6r (all_cons q7t (all_cons qlj all_nil))) (λp=>anRzApart p.1 p.2) λp hp=>?_
 obtain ⟨l,n⟩:=p;refine cast ?_ (rzApart_vc l n hp)
 kernel_rfl
set_option maxRecDepth 100000 in
theorem qlc:qcf.Holds Tryz.prog:=by
 refine q0h (cons:=[q73,qdm,qg2]) Tryz.func16 (by kernel_rfl) (by kernel_rfl) mixed (by kernel_rfl) (all_cons q6r (all_cons q7t (all_cons ql9 all_nil))) (λp=>anRzNested p.1 p.2.1 p.2.2) λp hp=>?_
 obtain ⟨l,n,i⟩:=p;refine cast ?_ (rzNested_vc l n i hp)
 kernel_rfl
set_option maxRecDepth 100000 in
theorem off_vc (x y:Int) :
    True∧(!onB (x,y))=!onB (x,y)
     := by
  exact ⟨trivial,rfl⟩
set_option maxRecDepth 100000 in
theorem tw_vc (r:List P2) (h:cTwice.pre r) :
    (∃ (p':Nat×Unit),(p'.1≤r.length∧True)∧((0:Int)=(p'.1:Int)∧True∧True∧r=r∧(r.length:Int)=(r.length:Int)∧True)∧(((0:Int)=sumTo (twAt r) p'.1∧True)
    ∧ (r=r∧True)∧True)∧True∧True∧True∧(True∧True)∧True∧True∧True∧True∧(True∧True)∧True)∧∀ (p:Nat×Unit),p.1≤r.length∧True→bif decide ((p.1:Int) <
    (r.length:Int)) then ((0:Int)≤(p.1:Int)∧(p.1:Int)<(r.length:Int))∧((-9223372036854775808:Int)≤(p.1:Int)+(1:Int)∧(p.1:Int)+(1:Int) ≤
    (9223372036854775807:Int))∧(r.length:Int)≠(0:Int)∧((0:Int)≤((p.1:Int)+(1:Int)).tmod (r.length:Int)∧((p.1:Int)+(1:Int)).tmod (r.length:Int)<(↑r.length
    : Int))∧((-9223372036854775808:Int)≤(r.getD (p.1:Int).toNat ((0:Int),(0:Int))).1*(r.getD (((p.1:Int)+(1:Int)).tmod (r.length:Int)).toNat ((0:Int),(0:Int))).2 ∧
    (r.getD (p.1:Int).toNat ((0:Int),(0:Int))).1*(r.getD (((p.1:Int)+(1:Int)).tmod (r.length:Int)).toNat ((0:Int),(0:Int))).2≤(9223372036854775807:Int)) ∧
    ((-9223372036854775808:Int)≤(r.getD (((p.1:Int)+(1:Int)).tmod (r.length:Int)).toNat ((0:Int),(0:Int))).1*(r.getD (p.1:Int).toNat ((0:Int),(0:Int))).2∧(r.getD
    (((p.1:Int)+(1:Int)).tmod (r.length:Int)).toNat ((0:Int),(0:Int))).1*(r.getD (p.1:Int).toNat ((0:Int),(0:Int))).2≤(9223372036854775807:Int)) ∧
    ((-9223372036854775808:Int)≤(r.getD (p.1:Int).toNat ((0:Int),(0:Int))).1*(r.getD (((p.1:Int)+(1:Int)).tmod (r.length:Int)).toNat ((0:Int),(0:Int))).2-(r.getD
    (((p.1:Int)+(1:Int)).tmod (r.length:Int)).toNat ((0:Int),(0:Int))).1*(r.getD (p.1:Int).toNat ((0:Int),(0:Int))).2∧(r.getD (p.1:Int).toNat ((0:Int),(0 :
    Int))).1*(r.getD (((p.1:Int)+(1:Int)).tmod (r.length:Int)).toNat ((0:Int),(0:Int))).2-(r.getD (((p.1:Int)+(1:Int)).tmod (r.length:Int)).toNat ((0:Int),(0 :
    Int))).1*(r.getD (p.1:Int).toNat ((0:Int),(0:Int))).2≤(9223372036854775807:Int))∧((-9223372036854775808:Int)≤sumTo (twAt r) p.1+((r.getD (p.1:Int).toNat ((0:Int),
    (0:Int))).1*(r.getD (((p.1:Int)+(1:Int)).tmod (r.length:Int)).toNat ((0:Int),(0:Int))).2-(r.getD (((p.1:Int)+(1:Int)).tmod (r.length:Int)).toNat ((0:Int),(0
    : Int))).1*(r.getD (p.1:Int).toNat ((0:Int),(0:Int))).2)∧sumTo (twAt r) p.1+((r.getD (p.1:Int).toNat ((0:Int),(0:Int))).1*(r.getD (((p.1:Int)+(1:Int)).tmod
    (r.length:Int)).toNat ((0:Int),(0:Int))).2-(r.getD (((p.1:Int)+(1:Int)).tmod (r.length:Int)).toNat ((0:Int),(0:Int))).1*(r.getD (p.1:Int).toNat ((0:Int),(0 :
    Int))).2)≤(9223372036854775807:Int))∧((-9223372036854775808:Int)≤(p.1:Int)+(1:Int)∧(p.1:Int)+(1:Int)≤(9223372036854775807:Int))∧∃ (p':Nat×Unit),(p'.1 ≤
    r.length∧True)∧r.length-p'.1<r.length-p.1∧((p.1:Int)+(1:Int)=(p'.1:Int)∧True∧True∧r=r∧(r.length:Int)=(r.length:Int)∧True)∧((sumTo (twAt r) p.1 +
    ((r.getD (p.1:Int).toNat ((0:Int),(0:Int))).1*(r.getD (((p.1:Int)+(1:Int)).tmod (r.length:Int)).toNat ((0:Int),(0:Int))).2-(r.getD (((p.1:Int)+(1:Int)).tmod
    (r.length:Int)).toNat ((0:Int),(0:Int))).1*(r.getD (p.1:Int).toNat ((0:Int),(0:Int))).2)=sumTo (twAt r) p'.1∧True)∧(r=r∧True)∧True)∧True∧True∧True∧(True
    ∧ True)∧True∧True∧True∧True∧(True∧True)∧True else sumTo (twAt r) p.1=q5y r
     := by
  obtain ⟨hl,hon⟩:r.length≤40∧r.all onB=true:=h;simp only [and_true,eq_self];refine ⟨⟨(0,()),Nat.zero_le _,rfl,rfl⟩,?_⟩;rintro ⟨p,u⟩ hp;dsimp only at hp ⊢;have hti:((p:Int).toNat)=p:=rfl;refine bifP (λhb=>?_) λhb=>?_
  rotate_left
  · have:p=r.length:=by have:=of_decide_eq_false hb;omega
    subst this;rfl
  have hlt:p<r.length:=by have:=of_decide_eq_true hb;omega
  have hn:0<r.length:=by omega
  have o1:=q0x (q23 hon hn p);have o2:=q0x (q23 hon hn (p+1));have m1:=q3w (a:=(rAt r p).1) (b:=(rAt r (p+1)).2) (by omega) (by omega) (by omega) (by omega)
  have m2:=q3w (a:=(rAt r (p+1)).1) (b:=(rAt r p).2) (by omega) (by omega) (by omega) (by omega)
  have hB:∀ i,-(2147352578:Int)≤twAt r i∧twAt r i≤2147352578:=λi=>by
    have o1:=q0x (q23 hon hn i);have o2:=q0x (q23 hon hn (i+1));have m1:=q3w (a:=(rAt r i).1) (b:=(rAt r (i+1)).2) (by omega) (by omega) (by omega) (by omega)
    have m2:=q3w (a:=(rAt r (i+1)).1) (b:=(rAt r i).2) (by omega) (by omega) (by omega) (by omega)
    unfold twAt;omega
  have hs:=qca hB p;have hs1:=qfe (twAt r) p;have e:twAt r p=(rAt r p).1*(rAt r (p+1)).2-(rAt r (p+1)).1*(rAt r p).2:=rfl;simp only [hti,tm1,at0 r hlt,atm];have ti:=q8k (p+1) hn;rw [← e];exact ⟨by omega,by omega,by omega,ti,by omega,by omega,by omega,by omega,by omega,(p+1,()),by omega,by omega,by omega,hs1.symm⟩
abbrev qd7 (p:Nat) (r:List P2):Prop :=
 (((r.getD (((p:Int)+1).tmod (r.length:Int)).toNat ((0:Int),(0:Int))).1=(r.getD (((p:Int)+1).tmod (r.length:Int)).toNat ((0:Int),(0:Int))).1∧(r.getD (((p:Int)+1).tmod (r.length:Int)).toNat ((0:Int),(0:Int))).2=(r.getD (((p:Int)+1).tmod (r.length:Int)).toNat ((0:Int),(0:Int))).2∧True)∧((r.getD (p:Int).toNat ((0:Int),(0:Int))).1=(r.getD (p:Int).toNat ((0:Int),(0:Int))).1∧(r.getD (p:Int).toNat ((0:Int),(0:Int))).2=(r.getD (p:Int).toNat ((0:Int),(0:Int))).2∧True)∧True)
abbrev qds (p:Nat) (r:List P2):Prop :=
 (r=r∧(r.length:Int)=(r.length:Int)∧(p:Int)=(p:Int)∧True∧True∧(r.length:Int)=(r.length:Int)∧(p:Int)=(p:Int)∧True)
abbrev zZnE1_2 (p:Nat) (r:List P2):Prop :=
 (((r.getD (p:Int).toNat ((0:Int),(0:Int))).1=(r.getD (p:Int).toNat ((0:Int),(0:Int))).1∧(r.getD (p:Int).toNat ((0:Int),(0:Int))).2=(r.getD (p:Int).toNat ((0:Int),(0:Int))).2∧True)∧((r.getD (((p:Int)+1).tmod (r.length:Int)).toNat ((0:Int),(0:Int))).1=(r.getD (((p:Int)+1).tmod (r.length:Int)).toNat ((0:Int),(0:Int))).1∧(r.getD (((p:Int)+1).tmod (r.length:Int)).toNat ((0:Int),(0:Int))).2=(r.getD (((p:Int)+1).tmod (r.length:Int)).toNat ((0:Int),(0:Int))).2∧True)∧True)
abbrev qar (p:Nat) (r:List P2):Prop :=
 ((qds p r)∧(qd7 p r)∧True∧True∧True∧True∧True∧True∧True∧True)
set_option maxRecDepth 100000 in
theorem si_vc (r:List P2) (h:cSimple.pre r) :
  (∃ (p':Nat),(p'≤r.length∧(List.range p').all (q1v r)=true)∧((0:Int)=(p':Int)∧r=r∧(r.length:Int)=(r.length:Int)∧(r.length:Int)=(r.length:Int)∧True)∧True∧True∧True∧True∧True∧True∧True∧True∧True)∧∀ (p:Nat),p≤r.length∧(List.range p).all (q1v r)=true→bif decide ((p:Int)<(r.length:Int)) then ((0≤(p:Int)∧(p:Int)<(r.length:Int))∧(zFit ((p:Int)+1))∧(r.length:Int)≠(0:Int)∧((0:Int)≤((p:Int)+1).tmod (r.length:Int)∧((p:Int)+1).tmod (r.length:Int)<(r.length:Int))∧((qar p r)∧(qds p r)∧(qd7 p r)∧True∧True∧True∧True∧True∧True∧True∧True)∧((qar p r)∧(qar p r)∧(qds p r)∧(qd7 p r)∧True∧True∧True∧True∧True∧True∧True∧True)∧(qar p r)∧(qar p r)∧(qds p r)∧(qd7 p r)∧True∧True∧True∧True∧True∧True∧True∧True)∧(zFit ((p:Int)+2))∧(r.length:Int)≠(0:Int)∧((0:Int)≤((p:Int)+2).tmod (r.length:Int)∧((p:Int)+2).tmod (r.length:Int)<(r.length:Int))∧True∧bif q18 (r.getD (p:Int).toNat ((0:Int),(0:Int))) (r.getD (((p:Int)+1).tmod (r.length:Int)).toNat ((0:Int),(0:Int))) (r.getD (((p:Int)+2).tmod (r.length:Int)).toNat ((0:Int),(0:Int)))==(0:Int) then false=q48 r else (zFit ((p:Int)+2))∧(∃ (p':Nat),SiAt r (p:Int).toNat p'∧((p:Int)+2=(p':Int)∧r=r∧(r.length:Int)=(r.length:Int)∧(p:Int)=(p:Int)∧True∧True∧(r.length:Int)=(r.length:Int)∧(p:Int)=(p:Int)∧True)∧(zZnE1_2 p r)∧True∧True∧True∧True∧True∧True∧True∧True)∧∀ (p_1:Nat),SiAt r (p:Int).toNat p_1→(zFit ((p:Int)+(r.length:Int)))∧(zFit ((p:Int)+(r.length:Int)-1))∧True∧bif decide ((p_1:Int)<min (r.length:Int) ((p:Int)+(r.length:Int)-1)) then (0≤(p_1:Int)∧(p_1:Int)<(r.length:Int))∧(zFit ((p_1:Int)+1))∧(r.length:Int)≠(0:Int)∧((0:Int)≤((p_1:Int)+1).tmod (r.length:Int)∧((p_1:Int)+1).tmod (r.length:Int)<(r.length:Int))∧(onB (r.getD (p:Int).toNat ((0:Int),(0:Int)))=true∧onB (r.getD (((p:Int)+1).tmod (r.length:Int)).toNat ((0:Int),(0:Int)))=true∧onB (r.getD (p_1:Int).toNat ((0:Int),(0:Int)))=true∧onB (r.getD (((p_1:Int)+1).tmod (r.length:Int)).toNat ((0:Int),(0:Int)))=true)∧bif decide ((0:Int)<q0j (r.getD (p:Int).toNat ((0:Int),(0:Int))) (r.getD (((p:Int)+1).tmod (r.length:Int)).toNat ((0:Int),(0:Int))) (r.getD (p_1:Int).toNat ((0:Int),(0:Int))) (r.getD (((p_1:Int)+1).tmod (r.length:Int)).toNat ((0:Int),(0:Int)))) then false=q48 r else (zFit ((p_1:Int)+1))∧∃ (p':Nat),SiAt r (p:Int).toNat p'∧(2:Nat)*r.length+(2:Nat)-p'<(2:Nat)*r.length+(2:Nat)-p_1∧((p_1:Int)+1=(p':Int)∧r=r∧(r.length:Int)=(r.length:Int)∧(p:Int)=(p:Int)∧True∧True∧(r.length:Int)=(r.length:Int)∧(p:Int)=(p:Int)∧True)∧(zZnE1_2 p r)∧True∧True∧True∧True∧True∧True∧True∧True else (zFit ((p:Int)+1))∧∃ (p':Nat),(p'≤r.length∧(List.range p').all (q1v r)=true)∧r.length-p'<r.length-p∧((p:Int)+1=(p':Int)∧r=r∧(r.length:Int)=(r.length:Int)∧(r.length:Int)=(r.length:Int)∧True)∧True∧True∧True∧True∧True∧True∧True∧True∧True else true=q48 r:=by
 delta qd7 qds zZnE1_2 qar zFit
 obtain ⟨⟨hl,hon⟩,h3⟩:(r.length≤40∧r.all onB=true)∧3≤r.length:=h;simp only [and_true,true_and,eq_self];refine ⟨⟨0,⟨Nat.zero_le _,rfl⟩,rfl⟩,?_⟩;rintro p ⟨hp,ha⟩;have hti:((p:Int).toNat)=p:=rfl;refine bifP (λhb=>?_) λhb=>?_
 rotate_left
 ·have:p=r.length:=by have:=of_decide_eq_false hb;omega
  subst this;exact ha.symm
 have hlt:p<r.length:=by have:=of_decide_eq_true hb;omega
 have hn:0<r.length:=by omega
 have hno:q1v r p=false→false=q48 r:=λhf=>by
  symm
  unfold q48;rw [← Bool.not_eq_true,List.all_eq_true];intro h;have:=h p (List.mem_range.2 hlt);rw [hf] at this;cases this
 simp only [hti,tm1,tm2,at0 r hlt,atm];have ti1:=q8k (p+1) hn;have ti2:=q8k (p+2) hn;refine ⟨⟨by omega,by omega,by omega,ti1.1,ti1.2⟩,by omega,by omega,ti2,bifP (λht=>?_) λht=>⟨by omega,⟨p+2,?_,by omega⟩,?_⟩⟩
 ·refine hno ?_
  unfold q1v;rw [show (q18 (rAt r p) (rAt r (p+1)) (rAt r (p+2)) != 0)=false by rw [bne,ht];rfl,Bool.false_and]
 ·refine ⟨hlt,Nat.le_refl _,.inr rfl,beq_eq_false_iff_ne.1 ht,λk h1 h2=>by omega⟩
 ·rintro j ⟨_,hj1,hj2,hturn,hcr⟩
  have htj:((j:Int).toNat)=j:=rfl;refine ⟨by omega,by omega,bifP (λhb2=>?_) λhb2=>⟨by omega,p+1,⟨by omega,?_⟩,by omega,by omega⟩⟩
  ·have hjl:j<min r.length (p+r.length-1):=by have:=of_decide_eq_true hb2;omega
   have hjr:j<r.length:=by omega
   simp only [htj,at0 r hjr];have ti3:=q8k (j+1) hn;refine ⟨by omega,by omega,by omega,ti3,⟨q23 hon hn _,q23 hon hn _,q23 hon hn _,q23 hon hn _⟩,bifP (λhc=>?_) λhc=>⟨by omega,j+1,⟨hlt,by omega,.inl (by omega),hturn,λk h1 h2=>?_⟩,by omega,by omega⟩⟩
   ·refine hno ?_
    unfold q1v;rw [Bool.and_eq_false_iff];right;rw [← Bool.not_eq_true,List.all_eq_true];intro h;have:=h j (List.mem_range.2 hjr);rw [decide_eq_true hj1,decide_eq_true (show j+1<p+r.length by omega),hc] at this
    cases this
   ·rcases Nat.lt_or_ge k j with h | h
    ·exact hcr k h1 h
    ·obtain rfl:k=j:=by omega
     exact of_decide_eq_false hc
  ·have hjl:min r.length (p+r.length-1)≤j:=by have:=of_decide_eq_false hb2;omega
   rw [range_all,ha,Bool.true_and];unfold q1v;rw [show (q18 (rAt r p) (rAt r (p+1)) (rAt r (p+2)) != 0)=true from bne_iff_ne.2 hturn,Bool.true_and,List.all_eq_true];intro k hk;have hk:=List.mem_range.1 hk;by_cases h1:p+2≤k
   ·by_cases h2:k+1<p+r.length
    ·rw [decide_eq_false (hcr k h1 (by omega)),Bool.not_false,Bool.or_true]
    ·rw [decide_eq_false h2,Bool.and_false];rfl
   ·rw [decide_eq_false h1];rfl
set_option maxRecDepth 100000 in
theorem va_vc (r:List P2) (h:cRing.pre r) :
    bif decide ((3:Int)≤(r.length:Int)) then bif decide ((r.length:Int)≤(40:Int)) then (∃ (p':Nat),(p'≤r.length∧(List.take p' r).all onB=true)∧((0:Int)=(p':Int) ∧
    r=r∧True∧(r.length:Int)=(r.length:Int)∧True)∧True∧True∧True∧True∧(r=r∧true=true∧True)∧True∧True∧True∧True)∧∀ (p:Nat),p≤r.length∧(List.take
    p r).all onB=true→bif decide ((p:Int)<(r.length:Int)) then ((0:Int)≤(p:Int)∧(p:Int)<(r.length:Int))∧True∧bif !onB (r.getD (p:Int).toNat ((0:Int),(0 :
    Int))) then false=q05 r else ((-9223372036854775808:Int)≤(p:Int)+(1:Int)∧(p:Int)+(1:Int)≤(9223372036854775807:Int))∧∃ (p':Nat),(p'≤r.length∧(List.take
    p' r).all onB=true)∧r.length-p'<r.length-p∧((p:Int)+(1:Int)=(p':Int)∧r=r∧True∧(r.length:Int)=(r.length:Int)∧True)∧True∧True∧True∧True∧(r =
    r∧true=true∧True)∧True∧True∧True∧True else q0t r∧bif decide ((0:Int)<q5y r) then (q0t r∧(3:Nat)≤r.length)∧q48 r=q05 r else false=q05 r else
    false=q05 r else false=q05 r
     := by
  have h:r.length≤1000:=h;simp only [and_true,true_and,eq_self];have hV:q05 r=(decide (3≤r.length)&&(decide (r.length≤40)&&(r.all onB&&(decide (0<q5y r)&&q48 r)))):=rfl;refine bifP (λh1=>bifP (λh2=>⟨⟨0,⟨Nat.zero_le _,rfl⟩,rfl⟩,?_⟩) λh2=>?_) λh1=>?_
  rotate_left
  · rw [hV,decide_eq_false (show ¬ r.length≤40 by have:=of_decide_eq_false h2;omega),Bool.false_and,Bool.and_false]
  · rw [hV,decide_eq_false (show ¬ 3≤r.length by have:=of_decide_eq_false h1;omega),Bool.false_and]
  have h1:3≤r.length:=by have:=of_decide_eq_true h1;omega
  have h2:r.length≤40:=by have:=of_decide_eq_true h2;omega
  rw [decide_eq_true h1,decide_eq_true h2,Bool.true_and,Bool.true_and] at hV;rintro p ⟨hp,ha⟩;have hti:((p:Int).toNat)=p:=rfl;simp only [hti];refine bifP (λhb=>?_) λhb=>?_
  · have hlt:p<r.length:=by have:=of_decide_eq_true hb;omega
    refine ⟨⟨by omega,by omega⟩,bifP (λhb=>?_) λhb=>⟨⟨by omega,by omega⟩,p+1,⟨by omega,?_⟩,by omega,rfl⟩⟩
    · rw [hV,qbk r ((0:Int),(0:Int)) _ p hlt (by simpa using hb),Bool.false_and]
    · rw [q8v r ((0:Int),(0:Int)) _ p hlt,ha,Bool.true_and];simpa using hb
  · have hle:r.length≤p:=by have:=of_decide_eq_false hb;omega
    rw [all_end r _ p hle] at ha;rw [hV,ha,Bool.true_and];exact ⟨⟨h2,ha⟩,bifP (λht=>⟨⟨⟨h2,ha⟩,h1⟩,by rw [ht,Bool.true_and]⟩) λht=>by rw [ht,Bool.false_and]⟩
abbrev qhx (p:Nat×Unit) (r:List P2) (x:Int) (y:Int):Prop :=
 (True∧True∧True∧IntKind.i64.wrap ((2:Int)*(r.getD (p.1:Int).toNat ((0:Int),(0:Int))).2)-y=IntKind.i64.wrap ((2:Int)*(r.getD (p.1:Int).toNat ((0:Int),(0:Int))).2)-y∧IntKind.i64.wrap ((2:Int)*(r.getD (((p.1:Int)+1).tmod (r.length:Int)).toNat ((0:Int),(0:Int))).2)-y=IntKind.i64.wrap ((2:Int)*(r.getD (((p.1:Int)+1).tmod (r.length:Int)).toNat ((0:Int),(0:Int))).2)-y∧(IntKind.i64.wrap ((2:Int)*(r.getD (p.1:Int).toNat ((0:Int),(0:Int))).1)-x)*(IntKind.i64.wrap ((2:Int)*(r.getD (((p.1:Int)+1).tmod (r.length:Int)).toNat ((0:Int),(0:Int))).2)-y)-(IntKind.i64.wrap ((2:Int)*(r.getD (p.1:Int).toNat ((0:Int),(0:Int))).2)-y)*(IntKind.i64.wrap ((2:Int)*(r.getD (((p.1:Int)+1).tmod (r.length:Int)).toNat ((0:Int),(0:Int))).1)-x)=(IntKind.i64.wrap ((2:Int)*(r.getD (p.1:Int).toNat ((0:Int),(0:Int))).1)-x)*(IntKind.i64.wrap ((2:Int)*(r.getD (((p.1:Int)+1).tmod (r.length:Int)).toNat ((0:Int),(0:Int))).2)-y)-(IntKind.i64.wrap ((2:Int)*(r.getD (p.1:Int).toNat ((0:Int),(0:Int))).2)-y)*(IntKind.i64.wrap ((2:Int)*(r.getD (((p.1:Int)+1).tmod (r.length:Int)).toNat ((0:Int),(0:Int))).1)-x)∧True)
abbrev q3l (p:Nat×Unit) (p':Nat×Unit) (r:List P2):Prop :=
 ((p.1:Int)+1=(p'.1:Int)∧True∧True∧r=r∧(r.length:Int)=(r.length:Int)∧True)
abbrev q5m (p:Nat×Unit) (p':Nat×Unit) (p_1:Bool) (r:List P2) (x:Int) (y:Int):Prop :=
 ((sumTo (q0y r (x,y)) p.1=sumTo (q0y r (x,y)) p'.1∧True)∧(p_1=(List.range p'.1).any (onAt r (x,y))∧True)∧(r=r∧True)∧(x=x∧y=y∧True)∧True)
abbrev qhy (p:Nat×Unit) (p':Nat×Unit) (p_1:Bool) (r:List P2) (x:Int) (y:Int):Prop :=
 ((sumTo (q0y r (x,y)) p.1-(1:Int)=sumTo (q0y r (x,y)) p'.1∧True)∧(p_1=(List.range p'.1).any (onAt r (x,y))∧True)∧(r=r∧True)∧(x=x∧y=y∧True)∧True)
abbrev qhh (p:Nat×Unit) (r:List P2):Prop :=
 (True∧True∧r=r∧(r.length:Int)=(r.length:Int)∧(p.1:Int)=(p.1:Int)∧True∧True∧True∧True)
set_option maxRecDepth 100000 in
theorem ha_vc (r:List P2) (x y:Int) (h:cHalf.pre (r,(x,y))) :
  (∃ (p':Nat×Unit),(p'.1≤r.length∧True)∧((0:Int)=(p'.1:Int)∧True∧True∧r=r∧(r.length:Int)=(r.length:Int)∧True)∧(((0:Int)=sumTo (q0y r (x,y)) p'.1∧True)∧(false=(List.range p'.1).any (onAt r (x,y))∧True)∧(r=r∧True)∧(x=x∧y=y∧True)∧True)∧True∧True∧True∧(True∧True∧True∧True)∧True∧True∧True∧True∧(True∧True∧True∧True)∧True)∧∀ (p:Nat×Unit),p.1≤r.length∧True→bif decide ((p.1:Int)<(r.length:Int)) then (0≤(p.1:Int)∧(p.1:Int)<(r.length:Int))∧(zFit ((p.1:Int)+1))∧(r.length:Int)≠(0:Int)∧((0:Int)≤((p.1:Int)+1).tmod (r.length:Int)∧((p.1:Int)+1).tmod (r.length:Int)<(r.length:Int))∧True∧(zFit (IntKind.i64.wrap ((2:Int)*(r.getD (p.1:Int).toNat ((0:Int),(0:Int))).1)-x))∧True∧(zFit (IntKind.i64.wrap ((2:Int)*(r.getD (p.1:Int).toNat ((0:Int),(0:Int))).2)-y))∧True∧(zFit (IntKind.i64.wrap ((2:Int)*(r.getD (((p.1:Int)+1).tmod (r.length:Int)).toNat ((0:Int),(0:Int))).1)-x))∧True∧(zFit (IntKind.i64.wrap ((2:Int)*(r.getD (((p.1:Int)+1).tmod (r.length:Int)).toNat ((0:Int),(0:Int))).2)-y))∧(zFit ((IntKind.i64.wrap ((2:Int)*(r.getD (p.1:Int).toNat ((0:Int),(0:Int))).1)-x)*(IntKind.i64.wrap ((2:Int)*(r.getD (((p.1:Int)+1).tmod (r.length:Int)).toNat ((0:Int),(0:Int))).2)-y)))∧(zFit ((IntKind.i64.wrap ((2:Int)*(r.getD (p.1:Int).toNat ((0:Int),(0:Int))).2)-y)*(IntKind.i64.wrap ((2:Int)*(r.getD (((p.1:Int)+1).tmod (r.length:Int)).toNat ((0:Int),(0:Int))).1)-x)))∧(zFit ((IntKind.i64.wrap ((2:Int)*(r.getD (p.1:Int).toNat ((0:Int),(0:Int))).1)-x)*(IntKind.i64.wrap ((2:Int)*(r.getD (((p.1:Int)+1).tmod (r.length:Int)).toNat ((0:Int),(0:Int))).2)-y)-(IntKind.i64.wrap ((2:Int)*(r.getD (p.1:Int).toNat ((0:Int),(0:Int))).2)-y)*(IntKind.i64.wrap ((2:Int)*(r.getD (((p.1:Int)+1).tmod (r.length:Int)).toNat ((0:Int),(0:Int))).1)-x)))∧(bif (List.range p.1).any (onAt r (x,y)) then ∃ (p':Bool),p'=((List.range p.1).any (onAt r (x,y))||(IntKind.i64.wrap ((2:Int)*(r.getD (p.1:Int).toNat ((0:Int),(0:Int))).1)-x)*(IntKind.i64.wrap ((2:Int)*(r.getD (((p.1:Int)+1).tmod (r.length:Int)).toNat ((0:Int),(0:Int))).2)-y)-(IntKind.i64.wrap ((2:Int)*(r.getD (p.1:Int).toNat ((0:Int),(0:Int))).2)-y)*(IntKind.i64.wrap ((2:Int)*(r.getD (((p.1:Int)+1).tmod (r.length:Int)).toNat ((0:Int),(0:Int))).1)-x)==(0:Int)&&decide ((IntKind.i64.wrap ((2:Int)*(r.getD (p.1:Int).toNat ((0:Int),(0:Int))).1)-x)*(IntKind.i64.wrap ((2:Int)*(r.getD (((p.1:Int)+1).tmod (r.length:Int)).toNat ((0:Int),(0:Int))).1)-x)+(IntKind.i64.wrap ((2:Int)*(r.getD (p.1:Int).toNat ((0:Int),(0:Int))).2)-y)*(IntKind.i64.wrap ((2:Int)*(r.getD (((p.1:Int)+1).tmod (r.length:Int)).toNat ((0:Int),(0:Int))).2)-y)≤(0:Int)))∧(qhx p r x y)∧((true=p'∧True)∧(r=r∧True)∧(x=x∧y=y∧True)∧(sumTo (q0y r (x,y)) p.1=sumTo (q0y r (x,y)) p.1∧True)∧True)∧True∧True∧True∧(qhh p r)∧True∧True∧True∧True∧(True∧True∧True∧True)∧True else bif (IntKind.i64.wrap ((2:Int)*(r.getD (p.1:Int).toNat ((0:Int),(0:Int))).1)-x)*(IntKind.i64.wrap ((2:Int)*(r.getD (((p.1:Int)+1).tmod (r.length:Int)).toNat ((0:Int),(0:Int))).2)-y)-(IntKind.i64.wrap ((2:Int)*(r.getD (p.1:Int).toNat ((0:Int),(0:Int))).2)-y)*(IntKind.i64.wrap ((2:Int)*(r.getD (((p.1:Int)+1).tmod (r.length:Int)).toNat ((0:Int),(0:Int))).1)-x)==(0:Int) then (zFit ((IntKind.i64.wrap ((2:Int)*(r.getD (p.1:Int).toNat ((0:Int),(0:Int))).1)-x)*(IntKind.i64.wrap ((2:Int)*(r.getD (((p.1:Int)+1).tmod (r.length:Int)).toNat ((0:Int),(0:Int))).1)-x)))∧(zFit ((IntKind.i64.wrap ((2:Int)*(r.getD (p.1:Int).toNat ((0:Int),(0:Int))).2)-y)*(IntKind.i64.wrap ((2:Int)*(r.getD (((p.1:Int)+1).tmod (r.length:Int)).toNat ((0:Int),(0:Int))).2)-y)))∧(zFit ((IntKind.i64.wrap ((2:Int)*(r.getD (p.1:Int).toNat ((0:Int),(0:Int))).1)-x)*(IntKind.i64.wrap ((2:Int)*(r.getD (((p.1:Int)+1).tmod (r.length:Int)).toNat ((0:Int),(0:Int))).1)-x)+(IntKind.i64.wrap ((2:Int)*(r.getD (p.1:Int).toNat ((0:Int),(0:Int))).2)-y)*(IntKind.i64.wrap ((2:Int)*(r.getD (((p.1:Int)+1).tmod (r.length:Int)).toNat ((0:Int),(0:Int))).2)-y)))∧∃ (p':Bool),p'=((List.range p.1).any (onAt r (x,y))||(IntKind.i64.wrap ((2:Int)*(r.getD (p.1:Int).toNat ((0:Int),(0:Int))).1)-x)*(IntKind.i64.wrap ((2:Int)*(r.getD (((p.1:Int)+1).tmod (r.length:Int)).toNat ((0:Int),(0:Int))).2)-y)-(IntKind.i64.wrap ((2:Int)*(r.getD (p.1:Int).toNat ((0:Int),(0:Int))).2)-y)*(IntKind.i64.wrap ((2:Int)*(r.getD (((p.1:Int)+1).tmod (r.length:Int)).toNat ((0:Int),(0:Int))).1)-x)==(0:Int)&&decide ((IntKind.i64.wrap ((2:Int)*(r.getD (p.1:Int).toNat ((0:Int),(0:Int))).1)-x)*(IntKind.i64.wrap ((2:Int)*(r.getD (((p.1:Int)+1).tmod (r.length:Int)).toNat ((0:Int),(0:Int))).1)-x)+(IntKind.i64.wrap ((2:Int)*(r.getD (p.1:Int).toNat ((0:Int),(0:Int))).2)-y)*(IntKind.i64.wrap ((2:Int)*(r.getD (((p.1:Int)+1).tmod (r.length:Int)).toNat ((0:Int),(0:Int))).2)-y)≤(0:Int)))∧(qhx p r x y)∧((decide ((IntKind.i64.wrap ((2:Int)*(r.getD (p.1:Int).toNat ((0:Int),(0:Int))).1)-x)*(IntKind.i64.wrap ((2:Int)*(r.getD (((p.1:Int)+1).tmod (r.length:Int)).toNat ((0:Int),(0:Int))).1)-x)+(IntKind.i64.wrap ((2:Int)*(r.getD (p.1:Int).toNat ((0:Int),(0:Int))).2)-y)*(IntKind.i64.wrap ((2:Int)*(r.getD (((p.1:Int)+1).tmod (r.length:Int)).toNat ((0:Int),(0:Int))).2)-y)≤(0:Int))=p'∧True)∧(r=r∧True)∧(x=x∧y=y∧True)∧(sumTo (q0y r (x,y)) p.1=sumTo (q0y r (x,y)) p.1∧True)∧True)∧True∧True∧True∧(qhh p r)∧True∧True∧True∧True∧(True∧True∧True∧True)∧True else ∃ (p':Bool),p'=((List.range p.1).any (onAt r (x,y))||(IntKind.i64.wrap ((2:Int)*(r.getD (p.1:Int).toNat ((0:Int),(0:Int))).1)-x)*(IntKind.i64.wrap ((2:Int)*(r.getD (((p.1:Int)+1).tmod (r.length:Int)).toNat ((0:Int),(0:Int))).2)-y)-(IntKind.i64.wrap ((2:Int)*(r.getD (p.1:Int).toNat ((0:Int),(0:Int))).2)-y)*(IntKind.i64.wrap ((2:Int)*(r.getD (((p.1:Int)+1).tmod (r.length:Int)).toNat ((0:Int),(0:Int))).1)-x)==(0:Int)&&decide ((IntKind.i64.wrap ((2:Int)*(r.getD (p.1:Int).toNat ((0:Int),(0:Int))).1)-x)*(IntKind.i64.wrap ((2:Int)*(r.getD (((p.1:Int)+1).tmod (r.length:Int)).toNat ((0:Int),(0:Int))).1)-x)+(IntKind.i64.wrap ((2:Int)*(r.getD (p.1:Int).toNat ((0:Int),(0:Int))).2)-y)*(IntKind.i64.wrap ((2:Int)*(r.getD (((p.1:Int)+1).tmod (r.length:Int)).toNat ((0:Int),(0:Int))).2)-y)≤(0:Int)))∧(qhx p r x y)∧((false=p'∧True)∧(r=r∧True)∧(x=x∧y=y∧True)∧(sumTo (q0y r (x,y)) p.1=sumTo (q0y r (x,y)) p.1∧True)∧True)∧True∧True∧True∧(qhh p r)∧True∧True∧True∧True∧(True∧True∧True∧True)∧True)∧∀ (p_1:Bool),p_1=((List.range p.1).any (onAt r (x,y))||(IntKind.i64.wrap ((2:Int)*(r.getD (p.1:Int).toNat ((0:Int),(0:Int))).1)-x)*(IntKind.i64.wrap ((2:Int)*(r.getD (((p.1:Int)+1).tmod (r.length:Int)).toNat ((0:Int),(0:Int))).2)-y)-(IntKind.i64.wrap ((2:Int)*(r.getD (p.1:Int).toNat ((0:Int),(0:Int))).2)-y)*(IntKind.i64.wrap ((2:Int)*(r.getD (((p.1:Int)+1).tmod (r.length:Int)).toNat ((0:Int),(0:Int))).1)-x)==(0:Int)&&decide ((IntKind.i64.wrap ((2:Int)*(r.getD (p.1:Int).toNat ((0:Int),(0:Int))).1)-x)*(IntKind.i64.wrap ((2:Int)*(r.getD (((p.1:Int)+1).tmod (r.length:Int)).toNat ((0:Int),(0:Int))).1)-x)+(IntKind.i64.wrap ((2:Int)*(r.getD (p.1:Int).toNat ((0:Int),(0:Int))).2)-y)*(IntKind.i64.wrap ((2:Int)*(r.getD (((p.1:Int)+1).tmod (r.length:Int)).toNat ((0:Int),(0:Int))).2)-y)≤(0:Int)))→bif decide (IntKind.i64.wrap ((2:Int)*(r.getD (p.1:Int).toNat ((0:Int),(0:Int))).2)-y≤(0:Int)) then bif decide ((0:Int)<IntKind.i64.wrap ((2:Int)*(r.getD (((p.1:Int)+1).tmod (r.length:Int)).toNat ((0:Int),(0:Int))).2)-y) then bif decide ((0:Int)<(IntKind.i64.wrap ((2:Int)*(r.getD (p.1:Int).toNat ((0:Int),(0:Int))).1)-x)*(IntKind.i64.wrap ((2:Int)*(r.getD (((p.1:Int)+1).tmod (r.length:Int)).toNat ((0:Int),(0:Int))).2)-y)-(IntKind.i64.wrap ((2:Int)*(r.getD (p.1:Int).toNat ((0:Int),(0:Int))).2)-y)*(IntKind.i64.wrap ((2:Int)*(r.getD (((p.1:Int)+1).tmod (r.length:Int)).toNat ((0:Int),(0:Int))).1)-x)) then (zFit (sumTo (q0y r (x,y)) p.1+(1:Int)))∧(zFit ((p.1:Int)+1))∧∃ (p':Nat×Unit),(p'.1≤r.length∧True)∧r.length-p'.1<r.length-p.1∧(q3l p p' r)∧((sumTo (q0y r (x,y)) p.1+(1:Int)=sumTo (q0y r (x,y)) p'.1∧True)∧(p_1=(List.range p'.1).any (onAt r (x,y))∧True)∧(r=r∧True)∧(x=x∧y=y∧True)∧True)∧True∧True∧True∧(True∧True∧True∧True)∧True∧True∧True∧True∧(True∧True∧True∧True)∧True else bif decide ((0:Int)<IntKind.i64.wrap ((2:Int)*(r.getD (p.1:Int).toNat ((0:Int),(0:Int))).2)-y) then bif decide (IntKind.i64.wrap ((2:Int)*(r.getD (((p.1:Int)+1).tmod (r.length:Int)).toNat ((0:Int),(0:Int))).2)-y≤(0:Int)) then bif decide ((IntKind.i64.wrap ((2:Int)*(r.getD (p.1:Int).toNat ((0:Int),(0:Int))).1)-x)*(IntKind.i64.wrap ((2:Int)*(r.getD (((p.1:Int)+1).tmod (r.length:Int)).toNat ((0:Int),(0:Int))).2)-y)-(IntKind.i64.wrap ((2:Int)*(r.getD (p.1:Int).toNat ((0:Int),(0:Int))).2)-y)*(IntKind.i64.wrap ((2:Int)*(r.getD (((p.1:Int)+1).tmod (r.length:Int)).toNat ((0:Int),(0:Int))).1)-x)<(0:Int)) then (zFit (sumTo (q0y r (x,y)) p.1-(1:Int)))∧(zFit ((p.1:Int)+1))∧∃ (p':Nat×Unit),(p'.1≤r.length∧True)∧r.length-p'.1<r.length-p.1∧(q3l p p' r)∧(qhy p p' p_1 r x y)∧True∧True∧True∧(True∧True∧True∧True)∧True∧True∧True∧True∧(True∧True∧True∧True)∧True else (zFit ((p.1:Int)+1))∧∃ (p':Nat×Unit),(p'.1≤r.length∧True)∧r.length-p'.1<r.length-p.1∧(q3l p p' r)∧(q5m p p' p_1 r x y)∧True∧True∧True∧(True∧True∧True∧True)∧True∧True∧True∧True∧(True∧True∧True∧True)∧True else (zFit ((p.1:Int)+1))∧∃ (p':Nat×Unit),(p'.1≤r.length∧True)∧r.length-p'.1<r.length-p.1∧(q3l p p' r)∧(q5m p p' p_1 r x y)∧True∧True∧True∧(True∧True∧True∧True)∧True∧True∧True∧True∧(True∧True∧True∧True)∧True else (zFit ((p.1:Int)+1))∧∃ (p':Nat×Unit),(p'.1≤r.length∧True)∧r.length-p'.1<r.length-p.1∧(q3l p p' r)∧(q5m p p' p_1 r x y)∧True∧True∧True∧(True∧True∧True∧True)∧True∧True∧True∧True∧(True∧True∧True∧True)∧True else bif decide ((0:Int)<IntKind.i64.wrap ((2:Int)*(r.getD (p.1:Int).toNat ((0:Int),(0:Int))).2)-y) then bif decide (IntKind.i64.wrap ((2:Int)*(r.getD (((p.1:Int)+1).tmod (r.length:Int)).toNat ((0:Int),(0:Int))).2)-y≤(0:Int)) then bif decide ((IntKind.i64.wrap ((2:Int)*(r.getD (p.1:Int).toNat ((0:Int),(0:Int))).1)-x)*(IntKind.i64.wrap ((2:Int)*(r.getD (((p.1:Int)+1).tmod (r.length:Int)).toNat ((0:Int),(0:Int))).2)-y)-(IntKind.i64.wrap ((2:Int)*(r.getD (p.1:Int).toNat ((0:Int),(0:Int))).2)-y)*(IntKind.i64.wrap ((2:Int)*(r.getD (((p.1:Int)+1).tmod (r.length:Int)).toNat ((0:Int),(0:Int))).1)-x)<(0:Int)) then (zFit (sumTo (q0y r (x,y)) p.1-(1:Int)))∧(zFit ((p.1:Int)+1))∧∃ (p':Nat×Unit),(p'.1≤r.length∧True)∧r.length-p'.1<r.length-p.1∧(q3l p p' r)∧(qhy p p' p_1 r x y)∧True∧True∧True∧(True∧True∧True∧True)∧True∧True∧True∧True∧(True∧True∧True∧True)∧True else (zFit ((p.1:Int)+1))∧∃ (p':Nat×Unit),(p'.1≤r.length∧True)∧r.length-p'.1<r.length-p.1∧(q3l p p' r)∧(q5m p p' p_1 r x y)∧True∧True∧True∧(True∧True∧True∧True)∧True∧True∧True∧True∧(True∧True∧True∧True)∧True else (zFit ((p.1:Int)+1))∧∃ (p':Nat×Unit),(p'.1≤r.length∧True)∧r.length-p'.1<r.length-p.1∧(q3l p p' r)∧(q5m p p' p_1 r x y)∧True∧True∧True∧(True∧True∧True∧True)∧True∧True∧True∧True∧(True∧True∧True∧True)∧True else (zFit ((p.1:Int)+1))∧∃ (p':Nat×Unit),(p'.1≤r.length∧True)∧r.length-p'.1<r.length-p.1∧(q3l p p' r)∧(q5m p p' p_1 r x y)∧True∧True∧True∧(True∧True∧True∧True)∧True∧True∧True∧True∧(True∧True∧True∧True)∧True else bif decide ((0:Int)<IntKind.i64.wrap ((2:Int)*(r.getD (p.1:Int).toNat ((0:Int),(0:Int))).2)-y) then bif decide (IntKind.i64.wrap ((2:Int)*(r.getD (((p.1:Int)+1).tmod (r.length:Int)).toNat ((0:Int),(0:Int))).2)-y≤(0:Int)) then bif decide ((IntKind.i64.wrap ((2:Int)*(r.getD (p.1:Int).toNat ((0:Int),(0:Int))).1)-x)*(IntKind.i64.wrap ((2:Int)*(r.getD (((p.1:Int)+1).tmod (r.length:Int)).toNat ((0:Int),(0:Int))).2)-y)-(IntKind.i64.wrap ((2:Int)*(r.getD (p.1:Int).toNat ((0:Int),(0:Int))).2)-y)*(IntKind.i64.wrap ((2:Int)*(r.getD (((p.1:Int)+1).tmod (r.length:Int)).toNat ((0:Int),(0:Int))).1)-x)<(0:Int)) then (zFit (sumTo (q0y r (x,y)) p.1-(1:Int)))∧(zFit ((p.1:Int)+1))∧∃ (p':Nat×Unit),(p'.1≤r.length∧True)∧r.length-p'.1<r.length-p.1∧(q3l p p' r)∧(qhy p p' p_1 r x y)∧True∧True∧True∧(True∧True∧True∧True)∧True∧True∧True∧True∧(True∧True∧True∧True)∧True else (zFit ((p.1:Int)+1))∧∃ (p':Nat×Unit),(p'.1≤r.length∧True)∧r.length-p'.1<r.length-p.1∧(q3l p p' r)∧(q5m p p' p_1 r x y)∧True∧True∧True∧(True∧True∧True∧True)∧True∧True∧True∧True∧(True∧True∧True∧True)∧True else (zFit ((p.1:Int)+1))∧∃ (p':Nat×Unit),(p'.1≤r.length∧True)∧r.length-p'.1<r.length-p.1∧(q3l p p' r)∧(q5m p p' p_1 r x y)∧True∧True∧True∧(True∧True∧True∧True)∧True∧True∧True∧True∧(True∧True∧True∧True)∧True else (zFit ((p.1:Int)+1))∧∃ (p':Nat×Unit),(p'.1≤r.length∧True)∧r.length-p'.1<r.length-p.1∧(q3l p p' r)∧(q5m p p' p_1 r x y)∧True∧True∧True∧(True∧True∧True∧True)∧True∧True∧True∧True∧(True∧True∧True∧True)∧True else (sumTo (q0y r (x,y)) p.1,(List.range p.1).any (onAt r (x,y)))=(q5s r (x,y),onI r (x,y))∧(sumTo (q0y r (x,y)) p.1,(List.range p.1).any (onAt r (x,y)))=(q5s r (x,y),onI r (x,y)):=by
 delta qhx q3l q5m qhy qhh zFit
 obtain ⟨⟨hl,hon⟩,⟨hx1,hx2⟩,hy1,hy2⟩:(r.length≤40∧r.all onB=true)∧((0≤x∧x≤65534)∧(0≤y∧y≤65534)):=h;simp only [and_true,true_and,eq_self,and_self];refine ⟨⟨(0,()),Nat.zero_le _,rfl,rfl,rfl⟩,?_⟩;rintro ⟨p,u⟩ hp;dsimp only at hp ⊢;have hti:((p:Int).toNat)=p:=rfl;refine bifP (λhb=>?_) λhb=>?_
 rotate_left
 ·have:p=r.length:=by have:=of_decide_eq_false hb;omega
  subst this;rfl
 have hlt:p<r.length:=by have:=of_decide_eq_true hb;omega
 have hn:0<r.length:=by omega
 have o1:=q0x (q23 hon hn p);have o2:=q0x (q23 hon hn (p+1));have hB:∀ i,-(1:Int)≤q0y r (x,y) i∧q0y r (x,y) i≤1:=λi=>by
  unfold q0y;dsimp only;split <;> (try split) <;> omega
 have hs:=qca hB p;have hs1:=qfe (q0y r (x,y)) p;have ho1:=q7o (onAt r (x,y)) p;have wX:∀ i,IntKind.i64.wrap (2*(rAt r i).1)=2*(rAt r i).1:=λi=>q3f (by have:=q0x (q23 hon hn i);unfold q5w;omega)
 have wY:∀ i,IntKind.i64.wrap (2*(rAt r i).2)=2*(rAt r i).2:=λi=>q3f (by have:=q0x (q23 hon hn i);unfold q5w;omega)
 simp only [hti,tm1,at0 r hlt,atm,wX,wY];have ti:=q8k (p+1) hn;have e1:q0y r (x,y) p=if 2*(rAt r p).2-y≤0∧0<2*(rAt r (p+1)).2-y∧0<(2*(rAt r p).1-x)*(2*(rAt r (p+1)).2-y)-(2*(rAt r p).2-y)*(2*(rAt r (p+1)).1-x) then 1 else if 0<2*(rAt r p).2-y∧2*(rAt r (p+1)).2-y≤0∧(2*(rAt r p).1-x)*(2*(rAt r (p+1)).2-y)-(2*(rAt r p).2-y)*(2*(rAt r (p+1)).1-x)<0 then -1 else 0:=rfl
 have e2:onAt r (x,y) p=((2*(rAt r p).1-x)*(2*(rAt r (p+1)).2-y)-(2*(rAt r p).2-y)*(2*(rAt r (p+1)).1-x)==0&&decide ((2*(rAt r p).1-x)*(2*(rAt r (p+1)).1-x)+(2*(rAt r p).2-y)*(2*(rAt r (p+1)).2-y)≤0)):=rfl;rw [e1] at hs1;rw [e2] at ho1;have w1:-65534≤2*(rAt r p).1-x∧2*(rAt r p).1-x≤65534:=by omega
 have w2:-65534≤2*(rAt r p).2-y∧2*(rAt r p).2-y≤65534:=by omega
 have w3:-65534≤2*(rAt r (p+1)).1-x∧2*(rAt r (p+1)).1-x≤65534:=by omega
 have w4:-65534≤2*(rAt r (p+1)).2-y∧2*(rAt r (p+1)).2-y≤65534:=by omega
 refine ⟨by omega,by omega,by omega,ti,by omega,by omega,by omega,by omega,?_⟩
 clear wX wY e1 e2 o1 o2;generalize 2*(rAt r p).1-x=AX at *
 generalize 2*(rAt r p).2-y=AY at *
 generalize 2*(rAt r (p+1)).1-x=BX at *
 generalize 2*(rAt r (p+1)).2-y=BY at *
 have m1:=q44 w1.1 w1.2 w4.1 w4.2;have m2:=q44 w2.1 w2.2 w3.1 w3.2;have m3:=q44 w1.1 w1.2 w3.1 w3.2;have m4:=q44 w2.1 w2.2 w4.1 w4.2;generalize AX*BY=u1 at *
 generalize AY*BX=u2 at *
 generalize AX*BX=u3 at *
 generalize AY*BY=u4 at *
 refine ⟨by omega,by omega,by omega,bifP (λc1=>⟨_,rfl,by rw [c1,Bool.true_or]⟩) λc1=>bifP (λc2=>⟨by omega,by omega,by omega,_,rfl,by rw [c1,c2,Bool.false_or,Bool.true_and]⟩) λc2=>⟨_,rfl,by rw [c1,c2];rfl⟩,?_⟩
 intro q hq;have leaf:∀ W:Int,sumTo (q0y r (x,y)) (p+1)=W→((-9223372036854775808:Int)≤(p:Int)+1∧(p:Int)+1≤9223372036854775807)∧∃ p':Nat×Unit,p'.1≤r.length∧r.length-p'.1<r.length-p∧(p:Int)+1=(p'.1:Int)∧W=sumTo (q0y r (x,y)) p'.1∧q=(List.range p'.1).any (onAt r (x,y)) :=
  λW h=>⟨by omega,(p+1,()),by omega,by omega,by omega,h.symm,by rw [ho1];exact hq⟩
 rw [hs1] at leaf;clear hs1 ho1 hq hB
 repeat' (refine bifP (λc=>?_) (λc=>?_))
 all_goals simp only [decide_eq_true_eq,decide_eq_false_iff_not] at *
 all_goals first
  | exact leaf _ (by split <;> (try split) <;> omega)
  | exact ⟨by omega,leaf _ (by split <;> (try split) <;> omega)⟩
set_option maxRecDepth 100000 in
theorem in_vc (r:List P2) (x y:Int) (h:cInside.pre (r,(x,y))) :
    (q0t r∧q0r (x,y))∧bif q5s r (x,y) != (0:Int) then (!onI r (x,y))=q0w r (x,y) else false=q0w r (x,y)
     := by
  refine ⟨h,?_⟩;unfold q0w;refine bifP (λc=>by rw [c,Bool.true_and]) λc=>by rw [c,Bool.false_and]
set_option maxRecDepth 100000 in
theorem out_vc (r:List P2) (x y:Int) (h:qjq.pre (r,(x,y))) :
    (q0t r∧q0r (x,y))∧bif q5s r (x,y)==(0:Int) then (!onI r (x,y))=q0m r (x,y) else false=q0m r (x,y)
     := by
  refine ⟨h,?_⟩;unfold q0m;refine bifP (λc=>by rw [c,Bool.true_and]) λc=>by rw [c,Bool.false_and]
abbrev zZnF1_0 (p:Nat) (x:List P2) (y:List P2):Prop :=
 ((x=x∧True)∧(y=y∧True)∧(false=false∧True)∧((x.getD (p:Int).toNat ((0:Int),(0:Int))).1=(x.getD (p:Int).toNat ((0:Int),(0:Int))).1∧(x.getD (p:Int).toNat ((0:Int),(0:Int))).2=(x.getD (p:Int).toNat ((0:Int),(0:Int))).2∧True)∧((x.getD (((p:Int)+1).tmod (x.length:Int)).toNat ((0:Int),(0:Int))).1=(x.getD (((p:Int)+1).tmod (x.length:Int)).toNat ((0:Int),(0:Int))).1∧(x.getD (((p:Int)+1).tmod (x.length:Int)).toNat ((0:Int),(0:Int))).2=(x.getD (((p:Int)+1).tmod (x.length:Int)).toNat ((0:Int),(0:Int))).2∧True)∧(y=y∧True)∧True)
abbrev zZnF1_1 (p:Nat) (p':Nat) (x:List P2) (y:List P2):Prop :=
 (p'≤y.length∧((List.range p').any λ(m:Nat)=>q0j (x.getD (p:Int).toNat ((0:Int),(0:Int))) (x.getD (((p:Int)+1).tmod (x.length:Int)).toNat ((0:Int),(0:Int))) (rAt y m) (rAt y (m+(1:Nat)))==(2:Int))=false)
set_option maxRecDepth 100000 in
theorem cx_vc (x y:List P2) (h:qjp.pre (x,y)) :
  (∃ (p':Nat),(p'≤x.length∧((List.range p').any λ(i:Nat)=>(List.range y.length).any (q3o x y i))=false)∧((0:Int)=(p':Int)∧True∧True∧x=x∧(x.length:Int)=(x.length:Int)∧True)∧((x=x∧True)∧(y=y∧True)∧(false=false∧True)∧True)∧True∧True∧True∧(True∧True∧True)∧True∧True∧True∧True∧(True∧True∧True)∧True)∧∀ (p:Nat),p≤x.length∧((List.range p).any λ(i:Nat)=>(List.range y.length).any (q3o x y i))=false→bif decide ((p:Int)<(x.length:Int)) then (0≤(p:Int)∧(p:Int)<(x.length:Int))∧(zFit ((p:Int)+1))∧(x.length:Int)≠(0:Int)∧((0:Int)≤((p:Int)+1).tmod (x.length:Int)∧((p:Int)+1).tmod (x.length:Int)<(x.length:Int))∧(∃ (p':Nat),(zZnF1_1 p p' x y)∧((0:Int)=(p':Int)∧True∧True∧y=y∧(y.length:Int)=(y.length:Int)∧True)∧(zZnF1_0 p x y)∧True∧True∧True∧(True∧True∧True∧True∧True∧True∧x=x∧(x.length:Int)=(x.length:Int)∧(p:Int)=(p:Int)∧True∧True∧True)∧True∧True∧True∧True∧(True∧True∧True∧True∧True)∧True∧(True∧True∧True∧True∧True)∧True)∧∀ (p_1:Nat),p_1≤y.length∧((List.range p_1).any λ(m:Nat)=>q0j (x.getD (p:Int).toNat ((0:Int),(0:Int))) (x.getD (((p:Int)+1).tmod (x.length:Int)).toNat ((0:Int),(0:Int))) (rAt y m) (rAt y (m+(1:Nat)))==(2:Int))=false→bif decide ((p_1:Int)<(y.length:Int)) then (0≤(p_1:Int)∧(p_1:Int)<(y.length:Int))∧(zFit ((p_1:Int)+1))∧(y.length:Int)≠(0:Int)∧((0:Int)≤((p_1:Int)+1).tmod (y.length:Int)∧((p_1:Int)+1).tmod (y.length:Int)<(y.length:Int))∧(onB (x.getD (p:Int).toNat ((0:Int),(0:Int)))=true∧onB (x.getD (((p:Int)+1).tmod (x.length:Int)).toNat ((0:Int),(0:Int)))=true∧onB (y.getD (p_1:Int).toNat ((0:Int),(0:Int)))=true∧onB (y.getD (((p_1:Int)+1).tmod (y.length:Int)).toNat ((0:Int),(0:Int)))=true)∧bif q0j (x.getD (p:Int).toNat ((0:Int),(0:Int))) (x.getD (((p:Int)+1).tmod (x.length:Int)).toNat ((0:Int),(0:Int))) (y.getD (p_1:Int).toNat ((0:Int),(0:Int))) (y.getD (((p_1:Int)+1).tmod (y.length:Int)).toNat ((0:Int),(0:Int)))==(2:Int) then true=q1t x y else (zFit ((p_1:Int)+1))∧∃ (p':Nat),(zZnF1_1 p p' x y)∧y.length-p'<y.length-p_1∧((p_1:Int)+1=(p':Int)∧True∧True∧y=y∧(y.length:Int)=(y.length:Int)∧True)∧(zZnF1_0 p x y)∧True∧True∧True∧(True∧True∧True∧True∧True∧True∧x=x∧(x.length:Int)=(x.length:Int)∧(p:Int)=(p:Int)∧True∧True∧True)∧True∧True∧True∧True∧(True∧True∧True∧True∧True)∧True∧(True∧True∧True∧True∧True)∧True else (zFit ((p:Int)+1))∧∃ (p':Nat),(p'≤x.length∧((List.range p').any λ(i:Nat)=>(List.range y.length).any (q3o x y i))=false)∧x.length-p'<x.length-p∧((p:Int)+1=(p':Int)∧True∧True∧x=x∧(x.length:Int)=(x.length:Int)∧True)∧((x=x∧True)∧(y=y∧True)∧(false=false∧True)∧True)∧True∧True∧True∧(True∧True∧True)∧True∧True∧True∧True∧(True∧True∧True)∧True else false=q1t x y:=by
 delta zZnF1_0 zZnF1_1 zFit
 obtain ⟨⟨hl,hon⟩,hl2,hon2⟩:(x.length≤40∧x.all onB=true)∧(y.length≤40∧y.all onB=true):=h;simp only [and_true,eq_self,and_self];refine ⟨⟨0,⟨Nat.zero_le _,rfl⟩,rfl⟩,?_⟩;rintro p ⟨hp,ha⟩;have hti:((p:Int).toNat)=p:=rfl;refine bifP (λhb=>?_) λhb=>?_
 rotate_left
 ·have:p=x.length:=by have:=of_decide_eq_false hb;omega
  subst this;exact ha.symm
 have hlt:p<x.length:=by have:=of_decide_eq_true hb;omega
 have hn:0<x.length:=by omega
 have ti:=q8k (p+1) hn;simp only [hti,tm1,at0 x hlt,atm];refine ⟨by omega,by omega,by omega,ti,⟨0,⟨Nat.zero_le _,rfl⟩,rfl⟩,?_⟩
 rintro m ⟨hm,hma⟩;have htm:((m:Int).toNat)=m:=rfl;refine bifP (λhb2=>?_) λhb2=>?_
 ·have hlt2:m<y.length:=by have:=of_decide_eq_true hb2;omega
  have hn2:0<y.length:=by omega
  have ti2:=q8k (m+1) hn2;simp only [htm,at0 y hlt2];refine ⟨by omega,by omega,by omega,ti2,⟨q23 hon hn _,q23 hon hn _,q23 hon2 hn2 _,q23 hon2 hn2 _⟩,bifP (λhc=>?_) λhc=>⟨by omega,m+1,⟨by omega,?_⟩,by omega,by omega⟩⟩
  ·symm
   exact List.any_eq_true.2 ⟨p,List.mem_range.2 hlt,List.any_eq_true.2 ⟨m,List.mem_range.2 hlt2,hc⟩⟩
  ·rw [q7o,hma,Bool.false_or];exact hc
 ·have:m=y.length:=by have:=of_decide_eq_false hb2;omega
  subst this;refine ⟨by omega,p+1,⟨by omega,?_⟩,by omega,by omega⟩
  rw [q7o,ha,Bool.false_or];exact hma
abbrev q2m (p:Nat×List P2) (x:List P2) (y:List P2):Prop :=
 ((x=x∧True)∧(y=y∧True)∧(True∧True)∧((x.getD (p.1:Int).toNat ((0:Int),(0:Int))).1=(x.getD (p.1:Int).toNat ((0:Int),(0:Int))).1∧(x.getD (p.1:Int).toNat ((0:Int),(0:Int))).2=(x.getD (p.1:Int).toNat ((0:Int),(0:Int))).2∧True)∧((x.getD (((p.1:Int)+1).tmod (x.length:Int)).toNat ((0:Int),(0:Int))).1=(x.getD (((p.1:Int)+1).tmod (x.length:Int)).toNat ((0:Int),(0:Int))).1∧(x.getD (((p.1:Int)+1).tmod (x.length:Int)).toNat ((0:Int),(0:Int))).2=(x.getD (((p.1:Int)+1).tmod (x.length:Int)).toNat ((0:Int),(0:Int))).2∧True)∧True)
abbrev q69 (p:Nat×List P2) (x:List P2):Prop :=
 (True∧True∧x=x∧(x.length:Int)=(x.length:Int)∧(p.1:Int)=(p.1:Int)∧True∧True∧True)
abbrev q8q (p:Nat×List P2) (x:List P2):Prop :=
 (True∧True∧True∧True∧True∧True∧True∧x=x∧(x.length:Int)=(x.length:Int)∧(p.1:Int)=(p.1:Int)∧True∧True∧True)
abbrev qhb (p:Nat×List P2) (p':Nat×List P2) (x:List P2) (y:List P2):Prop :=
 (p'.1≤y.length∧p'.2=x.getD (p.1:Int).toNat ((0:Int),(0:Int))::x.getD (((p.1:Int)+1).tmod (x.length:Int)).toNat ((0:Int),(0:Int))::List.filter (λ(q:P2)=>betI q (x.getD (p.1:Int).toNat ((0:Int),(0:Int))) (x.getD (((p.1:Int)+1).tmod (x.length:Int)).toNat ((0:Int),(0:Int)))) (List.take p'.1 y))
abbrev qay (p:Nat×List P2) (x:List P2):Prop :=
 (True∧True∧True∧True∧True∧True∧x=x∧(x.length:Int)=(x.length:Int)∧(p.1:Int)=(p.1:Int)∧True∧True∧True)
set_option maxRecDepth 100000 in
theorem mi_vc (x y:List P2) (h:qju.pre (x,y)) :
  (∃ (p':Nat×List P2),(p'.1≤x.length∧p'.2=q36 x y p'.1)∧((0:Int)=(p'.1:Int)∧True∧True∧x=x∧(x.length:Int)=(x.length:Int)∧True)∧((True∧True)∧(x=x∧True)∧(y=y∧True)∧True)∧(p'.2=[]∧True)∧True∧True∧(True∧True∧True)∧True∧True∧True∧True∧(True∧True∧True)∧True)∧∀ (p:Nat×List P2),p.1≤x.length∧p.2=q36 x y p.1→bif decide ((p.1:Int)<(x.length:Int)) then (0≤(p.1:Int)∧(p.1:Int)<(x.length:Int))∧(zFit ((p.1:Int)+1))∧(x.length:Int)≠(0:Int)∧((0:Int)≤((p.1:Int)+1).tmod (x.length:Int)∧((p.1:Int)+1).tmod (x.length:Int)<(x.length:Int))∧(∃ (p':Nat×List P2),(qhb p p' x y)∧((0:Int)=(p'.1:Int)∧True∧True∧True∧True∧True∧y=y∧(y.length:Int)=(y.length:Int)∧True)∧(q2m p x y)∧([x.getD (p.1:Int).toNat ((0:Int),(0:Int)),x.getD (((p.1:Int)+1).tmod (x.length:Int)).toNat ((0:Int),(0:Int))]=p'.2∧p.2=p.2∧True)∧True∧True∧(q69 p x)∧True∧True∧True∧True∧(True∧True∧True)∧True)∧∀ (p_1:Nat×List P2),p_1.1≤y.length∧p_1.2=x.getD (p.1:Int).toNat ((0:Int),(0:Int))::x.getD (((p.1:Int)+1).tmod (x.length:Int)).toNat ((0:Int),(0:Int))::List.filter (λ(q:P2)=>betI q (x.getD (p.1:Int).toNat ((0:Int),(0:Int))) (x.getD (((p.1:Int)+1).tmod (x.length:Int)).toNat ((0:Int),(0:Int)))) (List.take p_1.1 y)→bif decide ((p_1.1:Int)<(y.length:Int)) then (0≤(p_1.1:Int)∧(p_1.1:Int)<(y.length:Int))∧True∧bif betI (y.getD (p_1.1:Int).toNat ((0:Int),(0:Int))) (x.getD (p.1:Int).toNat ((0:Int),(0:Int))) (x.getD (((p.1:Int)+1).tmod (x.length:Int)).toNat ((0:Int),(0:Int))) then (p_1.2.length+[y.getD (p_1.1:Int).toNat ((0:Int),(0:Int))].length)*(16:Nat)≤(140737488355328:Nat)∧(zFit ((p_1.1:Int)+1))∧∃ (p':Nat×List P2),(qhb p p' x y)∧y.length-p'.1<y.length-p_1.1∧((p_1.1:Int)+1=(p'.1:Int)∧True∧True∧True∧True∧True∧y=y∧(y.length:Int)=(y.length:Int)∧True)∧(q2m p x y)∧(p_1.2++[y.getD (p_1.1:Int).toNat ((0:Int),(0:Int))]=p'.2∧p.2=p.2∧True)∧True∧True∧(q69 p x)∧True∧True∧True∧True∧(True∧True∧True)∧True else (zFit ((p_1.1:Int)+1))∧∃ (p':Nat×List P2),(qhb p p' x y)∧y.length-p'.1<y.length-p_1.1∧((p_1.1:Int)+1=(p'.1:Int)∧True∧True∧True∧True∧True∧y=y∧(y.length:Int)=(y.length:Int)∧True)∧(q2m p x y)∧(p_1.2=p'.2∧p.2=p.2∧True)∧True∧True∧(q69 p x)∧True∧True∧True∧True∧(True∧True∧True)∧True else ((0:Int)≤IntKind.u64.wrap (p_1.2.length:Int)∧IntKind.u64.wrap (p_1.2.length:Int)<18446744073709551616)∧(∃ (p':Unit),True∧(True∧(0:Int)=0∧(p_1.2.length:Int)=(p_1.2.length:Int)∧(↑(Lib.bitLen (IntKind.u64.wrap (p_1.2.length:Int)).toNat):Int)=(↑(Lib.bitLen (IntKind.u64.wrap (p_1.2.length:Int)).toNat):Int)∧True∧true=true∧true=true∧True)∧(q2m p x y)∧(p_1.2=p_1.2∧p.2=p.2∧True)∧True∧True∧(q8q p x)∧True∧True∧True∧True∧(True∧True∧True)∧True)∧∀ (p_2:Unit),True→(zFit ((p_1.2.length:Int)-0))∧bif decide ((p_1.2.length:Int)-0≤(12:Int)) then (zFit ((0:Int)+1))∧(∃ (p':Nat×List P2),((1:Nat)≤p'.1∧p'.1≤p_1.2.length∧p'.2.Perm p_1.2∧UpTo (q0f (x.getD (p.1:Int).toNat ((0:Int),(0:Int)))) p'.2 p'.1)∧((0:Int)+1=(p'.1:Int)∧True∧(0:Int)=0∧(p_1.2.length:Int)=(p_1.2.length:Int)∧True∧True)∧(q2m p x y)∧(p_1.2=p'.2∧p.2=p.2∧True)∧True∧True∧(q8q p x)∧True∧True∧True∧True∧(True∧True∧True)∧True)∧∀ (p_3:Nat×List P2),(1:Nat)≤p_3.1∧p_3.1≤p_1.2.length∧p_3.2.Perm p_1.2∧UpTo (q0f (x.getD (p.1:Int).toNat ((0:Int),(0:Int)))) p_3.2 p_3.1→bif decide ((p_3.1:Int)<(p_1.2.length:Int)) then (∃ (p':Nat×List P2),InsAt (q0f (x.getD (p.1:Int).toNat ((0:Int),(0:Int)))) p_3.2 p'.2 (p_3.1:Int).toNat p'.1∧((p_3.1:Int)=(p'.1:Int)∧True∧(0:Int)=0∧(p_1.2.length:Int)=(p_1.2.length:Int)∧True∧(p_3.1:Int)=(p_3.1:Int)∧True)∧(q2m p x y)∧(p_3.2=p'.2∧p.2=p.2∧True)∧True∧True∧(q8q p x)∧True∧True∧True∧True∧(True∧True∧True)∧True)∧∀ (p_4:Nat×List P2),InsAt (q0f (x.getD (p.1:Int).toNat ((0:Int),(0:Int)))) p_3.2 p_4.2 (p_3.1:Int).toNat p_4.1→bif decide (0<(p_4.1:Int)) then (0≤(p_4.1:Int)∧(p_4.1:Int)<(p_4.2.length:Int))∧(zFit ((p_4.1:Int)-1))∧(0≤(p_4.1:Int)-1∧(p_4.1:Int)-1<(p_4.2.length:Int))∧True∧True∧(zFit (q0f (x.getD (p.1:Int).toNat ((0:Int),(0:Int))) (p_4.2.getD (p_4.1:Int).toNat ((0:Int),(0:Int)))-q0f (x.getD (p.1:Int).toNat ((0:Int),(0:Int))) (p_4.2.getD ((p_4.1:Int)-1).toNat ((0:Int),(0:Int)))))∧bif decide (q0f (x.getD (p.1:Int).toNat ((0:Int),(0:Int))) (p_4.2.getD (p_4.1:Int).toNat ((0:Int),(0:Int)))-q0f (x.getD (p.1:Int).toNat ((0:Int),(0:Int))) (p_4.2.getD ((p_4.1:Int)-1).toNat ((0:Int),(0:Int)))<(0:Int)) then (zFit ((p_4.1:Int)-1))∧(0≤(p_4.1:Int)-1∧(p_4.1:Int)-1<(p_4.2.length:Int))∧(0≤(p_4.1:Int)∧(p_4.1:Int)<(p_4.2.length:Int))∧(0≤(p_4.1:Int)∧(p_4.1:Int)<(p_4.2.length:Int))∧(zFit ((p_4.1:Int)-1))∧bif (p_4.1:Int).toNat.beq (p_4.1:Int).toNat then (0≤(p_4.1:Int)-1∧(p_4.1:Int)-1<(↑(p_4.2.set (p_4.1:Int).toNat (p_4.2.getD ((p_4.1:Int)-1).toNat ((0:Int),(0:Int)))).length:Int))∧bif ((p_4.1:Int)-1).toNat.beq ((p_4.1:Int)-1).toNat then (zFit ((p_4.1:Int)-1))∧∃ (p':Nat×List P2),InsAt (q0f (x.getD (p.1:Int).toNat ((0:Int),(0:Int)))) p_3.2 p'.2 (p_3.1:Int).toNat p'.1∧p'.1<p_4.1∧((p_4.1:Int)-1=(p'.1:Int)∧True∧(0:Int)=0∧(p_1.2.length:Int)=(p_1.2.length:Int)∧True∧(p_3.1:Int)=(p_3.1:Int)∧True)∧(q2m p x y)∧((p_4.2.set (p_4.1:Int).toNat (p_4.2.getD ((p_4.1:Int)-1).toNat ((0:Int),(0:Int)))).set ((p_4.1:Int)-1).toNat (p_4.2.getD (p_4.1:Int).toNat ((0:Int),(0:Int)))=p'.2∧p.2=p.2∧True)∧True∧True∧(q8q p x)∧True∧True∧True∧True∧(True∧True∧True)∧True else False else False else (zFit ((p_3.1:Int)+1))∧∃ (p':Nat×List P2),((1:Nat)≤p'.1∧p'.1≤p_1.2.length∧p'.2.Perm p_1.2∧UpTo (q0f (x.getD (p.1:Int).toNat ((0:Int),(0:Int)))) p'.2 p'.1)∧p_1.2.length-p'.1<p_1.2.length-p_3.1∧((p_3.1:Int)+1=(p'.1:Int)∧True∧(0:Int)=0∧(p_1.2.length:Int)=(p_1.2.length:Int)∧True∧True)∧(q2m p x y)∧(p_4.2=p'.2∧p.2=p.2∧True)∧True∧True∧(q8q p x)∧True∧True∧True∧True∧(True∧True∧True)∧True else (zFit ((p_3.1:Int)+1))∧∃ (p':Nat×List P2),((1:Nat)≤p'.1∧p'.1≤p_1.2.length∧p'.2.Perm p_1.2∧UpTo (q0f (x.getD (p.1:Int).toNat ((0:Int),(0:Int)))) p'.2 p'.1)∧p_1.2.length-p'.1<p_1.2.length-p_3.1∧((p_3.1:Int)+1=(p'.1:Int)∧True∧(0:Int)=0∧(p_1.2.length:Int)=(p_1.2.length:Int)∧True∧True)∧(q2m p x y)∧(p_4.2=p'.2∧p.2=p.2∧True)∧True∧True∧(q8q p x)∧True∧True∧True∧True∧(True∧True∧True)∧True else (bif decide ((p_3.2.length:Int)<2) then ∃ (p':List P2),p'=q2i p_3.2∧(True∧True∧True∧True)∧(q2m p x y)∧(p_3.2=p'∧p.2=p.2∧True)∧True∧True∧(q69 p x)∧True∧True∧True∧True∧(True∧True∧True)∧True else (∃ (p':Nat),((1:Nat)≤p'∧p'≤p_3.2.length∧q2i (List.take p' p_3.2)=List.take p' p_3.2)∧((1:Int)=(p':Int)∧True∧True)∧(q2m p x y)∧(p_3.2=p_3.2∧p.2=p.2∧True)∧True∧True∧(qay p x)∧True∧True∧True∧True∧(True∧True∧True)∧True)∧∀ (p_4:Nat),(1:Nat)≤p_4∧p_4≤p_3.2.length∧q2i (List.take p_4 p_3.2)=List.take p_4 p_3.2→bif decide ((p_4:Int)<(p_3.2.length:Int)) then (0≤(p_4:Int)∧(p_4:Int)<(p_3.2.length:Int))∧(zFit ((p_4:Int)-1))∧(0≤(p_4:Int)-1∧(p_4:Int)-1<(p_3.2.length:Int))∧bif (p_3.2.getD (p_4:Int).toNat ((0:Int),(0:Int))).1==(p_3.2.getD ((p_4:Int)-1).toNat ((0:Int),(0:Int))).1&&((p_3.2.getD (p_4:Int).toNat ((0:Int),(0:Int))).2==(p_3.2.getD ((p_4:Int)-1).toNat ((0:Int),(0:Int))).2&&true) then (0≤(p_4:Int)∧(p_4:Int)<(p_3.2.length:Int))∧(∃ (p':Nat×Nat×List P2),CoAt p_3.2 p'.2.2 (p_4:Int).toNat p'.1 p'.2.1∧((p_4:Int)=(p'.1:Int)∧(1:Int)=(p'.2.1:Int)∧True∧(p_4:Int).toNat=(p_4:Int).toNat∧True)∧(q2m p x y)∧(p_3.2=p'.2.2∧p.2=p.2∧True)∧True∧True∧(qay p x)∧True∧True∧True∧True∧(True∧True∧True)∧True)∧∀ (p_5:Nat×Nat×List P2),CoAt p_3.2 p_5.2.2 (p_4:Int).toNat p_5.1 p_5.2.1→bif decide ((p_5.2.1:Int)<(↑(p_5.2.2.length-(p_4:Int).toNat):Int)) then (0≤(p_5.2.1:Int)∧(p_5.2.1:Int)<(↑(p_5.2.2.length-(p_4:Int).toNat):Int))∧(zFit ((p_5.2.1:Int)-1))∧(0≤(p_5.2.1:Int)-1∧(p_5.2.1:Int)-1<(↑(p_5.2.2.length-(p_4:Int).toNat):Int))∧bif !((p_5.2.2.getD ((p_4:Int).toNat+(p_5.2.1:Int).toNat) ((0:Int),(0:Int))).1==(p_5.2.2.getD ((p_4:Int).toNat+((p_5.2.1:Int)-1).toNat) ((0:Int),(0:Int))).1&&((p_5.2.2.getD ((p_4:Int).toNat+(p_5.2.1:Int).toNat) ((0:Int),(0:Int))).2==(p_5.2.2.getD ((p_4:Int).toNat+((p_5.2.1:Int)-1).toNat) ((0:Int),(0:Int))).2&&true)) then (0≤(p_5.2.1:Int)∧(p_5.2.1:Int)<(↑(p_5.2.2.length-(p_4:Int).toNat):Int))∧(0≤(p_5.1:Int)∧(p_5.1:Int)<(p_5.2.2.length:Int))∧bif (p_5.1:Int).toNat.beq (p_5.1:Int).toNat then (zFit ((p_5.1:Int)+1))∧(zFit ((p_5.2.1:Int)+1))∧∃ (p':Nat×Nat×List P2),CoAt p_3.2 p'.2.2 (p_4:Int).toNat p'.1 p'.2.1∧p_3.2.length-p'.2.1<p_3.2.length-p_5.2.1∧((p_5.1:Int)+1=(p'.1:Int)∧(p_5.2.1:Int)+1=(p'.2.1:Int)∧True∧(p_4:Int).toNat=(p_4:Int).toNat∧True)∧(q2m p x y)∧(p_5.2.2.set (p_5.1:Int).toNat (p_5.2.2.getD ((p_4:Int).toNat+(p_5.2.1:Int).toNat) ((0:Int),(0:Int)))=p'.2.2∧p.2=p.2∧True)∧True∧True∧(qay p x)∧True∧True∧True∧True∧(True∧True∧True)∧True else False else (zFit ((p_5.2.1:Int)+1))∧∃ (p':Nat×Nat×List P2),CoAt p_3.2 p'.2.2 (p_4:Int).toNat p'.1 p'.2.1∧p_3.2.length-p'.2.1<p_3.2.length-p_5.2.1∧((p_5.1:Int)=(p'.1:Int)∧(p_5.2.1:Int)+1=(p'.2.1:Int)∧True∧(p_4:Int).toNat=(p_4:Int).toNat∧True)∧(q2m p x y)∧(p_5.2.2=p'.2.2∧p.2=p.2∧True)∧True∧True∧(qay p x)∧True∧True∧True∧True∧(True∧True∧True)∧True else (0≤(p_5.1:Int)∧(p_5.1:Int)<(p_5.2.2.length:Int))∧(0≤(p_5.1:Int)∧(p_5.1:Int)≤(↑(List.take (p_5.1:Int).toNat p_5.2.2++List.replicate (p_5.2.2.length-(p_5.1:Int).toNat) ((0:Int),(0:Int))).length:Int))∧∃ (p':List P2),p'=q2i p_3.2∧(True∧True∧True∧True)∧(q2m p x y)∧(List.take (p_5.1:Int).toNat (List.take (p_5.1:Int).toNat p_5.2.2++List.replicate (p_5.2.2.length-(p_5.1:Int).toNat) ((0:Int),(0:Int)))=p'∧p.2=p.2∧True)∧True∧True∧(q69 p x)∧True∧True∧True∧True∧(True∧True∧True)∧True else (zFit ((p_4:Int)+1))∧∃ (p':Nat),((1:Nat)≤p'∧p'≤p_3.2.length∧q2i (List.take p' p_3.2)=List.take p' p_3.2)∧p_3.2.length-p'<p_3.2.length-p_4∧((p_4:Int)+1=(p':Int)∧True∧True)∧(q2m p x y)∧(p_3.2=p_3.2∧p.2=p.2∧True)∧True∧True∧(qay p x)∧True∧True∧True∧True∧(True∧True∧True)∧True else ∃ (p':List P2),p'=q2i p_3.2∧(True∧True∧True∧True)∧(q2m p x y)∧(p_3.2=p'∧p.2=p.2∧True)∧True∧True∧(q69 p x)∧True∧True∧True∧True∧(True∧True∧True)∧True)∧∀ (p_4:List P2),p_4=q2i p_3.2→((0:Int)≤1∧1<(p_4.length:Int))∧(∃ (p':Nat×List P2),(p'.1+(1:Nat)≤p_4.length∧p'.2=p.2++List.take p'.1 (q2j p_4))∧((0:Int)=(p'.1:Int)∧True∧True∧True∧(1:Nat)=(1:Nat)∧(↑(p_4.length-(1:Nat)):Int)=(↑(p_4.length-(1:Nat)):Int)∧True)∧((x=x∧True)∧(y=y∧True)∧(True∧True)∧True)∧(p_4=p_4∧p.2=p'.2∧True)∧True∧True∧(q69 p x)∧True∧True∧True∧True∧(True∧True∧True)∧True)∧∀ (p_5:Nat×List P2),p_5.1+(1:Nat)≤p_4.length∧p_5.2=p.2++List.take p_5.1 (q2j p_4)→bif decide ((p_5.1:Int)<(↑(p_4.length-(1:Nat)):Int)) then (0≤(p_5.1:Int)∧(p_5.1:Int)<(↑(p_4.length-(1:Nat)):Int))∧(0≤(p_5.1:Int)∧(p_5.1:Int)<(p_4.length:Int))∧(zFit ((p_4.getD (p_5.1:Int).toNat ((0:Int),(0:Int))).1+(p_4.getD ((1:Nat)+(p_5.1:Int).toNat) ((0:Int),(0:Int))).1))∧(0≤(p_5.1:Int)∧(p_5.1:Int)<(p_4.length:Int))∧(zFit ((p_4.getD (p_5.1:Int).toNat ((0:Int),(0:Int))).2+(p_4.getD ((1:Nat)+(p_5.1:Int).toNat) ((0:Int),(0:Int))).2))∧(p_5.2.length+[((p_4.getD (p_5.1:Int).toNat ((0:Int),(0:Int))).1+(p_4.getD ((1:Nat)+(p_5.1:Int).toNat) ((0:Int),(0:Int))).1,(p_4.getD (p_5.1:Int).toNat ((0:Int),(0:Int))).2+(p_4.getD ((1:Nat)+(p_5.1:Int).toNat) ((0:Int),(0:Int))).2)].length)*(16:Nat)≤(140737488355328:Nat)∧(zFit ((p_5.1:Int)+1))∧∃ (p':Nat×List P2),(p'.1+(1:Nat)≤p_4.length∧p'.2=p.2++List.take p'.1 (q2j p_4))∧p_4.length-p'.1<p_4.length-p_5.1∧((p_5.1:Int)+1=(p'.1:Int)∧True∧True∧True∧(1:Nat)=(1:Nat)∧(↑(p_4.length-(1:Nat)):Int)=(↑(p_4.length-(1:Nat)):Int)∧True)∧((x=x∧True)∧(y=y∧True)∧(True∧True)∧True)∧(p_4=p_4∧p_5.2++[((p_4.getD (p_5.1:Int).toNat ((0:Int),(0:Int))).1+(p_4.getD ((1:Nat)+(p_5.1:Int).toNat) ((0:Int),(0:Int))).1,(p_4.getD (p_5.1:Int).toNat ((0:Int),(0:Int))).2+(p_4.getD ((1:Nat)+(p_5.1:Int).toNat) ((0:Int),(0:Int))).2)]=p'.2∧True)∧True∧True∧(q69 p x)∧True∧True∧True∧True∧(True∧True∧True)∧True else (zFit ((p.1:Int)+1))∧∃ (p':Nat×List P2),(p'.1≤x.length∧p'.2=q36 x y p'.1)∧x.length-p'.1<x.length-p.1∧((p.1:Int)+1=(p'.1:Int)∧True∧True∧x=x∧(x.length:Int)=(x.length:Int)∧True)∧((True∧True)∧(x=x∧True)∧(y=y∧True)∧True)∧(p_5.2=p'.2∧True)∧True∧True∧(True∧True∧True)∧True∧True∧True∧True∧(True∧True∧True)∧True else bif (↑(Lib.bitLen (IntKind.u64.wrap (p_1.2.length:Int)).toNat):Int)==(0:Int) then False else False else p.2=q02 x y:=by
 delta q2m q69 q8q qhb qay zFit
 obtain ⟨hvx,hvy,h12⟩:q05 x=true∧q05 y=true∧y.length≤12:=h;have hx:=Geo.q7u hvx;have hl:x.length≤40:=(q1q hvx).2.1;have h3:3≤x.length:=hx.three;simp only [and_true,true_and,eq_self,and_self];refine ⟨⟨(0,[]),⟨Nat.zero_le _,rfl⟩,rfl,rfl⟩,?_⟩;rintro ⟨p,out⟩ ⟨hp,hout⟩;dsimp only at hp hout ⊢;refine bifP (λhb=>?_) λhb=>?_
 rotate_left
 ·have:p=x.length:=by have:=of_decide_eq_false hb;omega
  subst this;exact hout
 have hlt:p<x.length:=by have:=of_decide_eq_true hb;omega
 have hn:0<x.length:=by omega
 have ti:=q8k (p+1) hn;have ho:=q9t hvx hvy h12 p;have hol:out.length≤480:=by rw [hout];omega
 have hab:=hx.ne p;have ha:=hx.on' p;have hbb:=hx.on' (p+1);have hms:=qfg x y p;rw [← hout] at hms;simp only [Int.toNat_natCast,tm1,at0 x hlt,atm'];clear hout ho;generalize rAt x p=a at *
 generalize rAt x (p+1)=b at *
 refine ⟨by omega,by omega,by omega,ti,⟨(0,[a,b]),⟨Nat.zero_le _,rfl⟩,rfl,rfl⟩,?_⟩
 rintro ⟨m,st⟩ ⟨hm,hst⟩;dsimp only at hm hst ⊢;have hlen:st.length≤2+m:=by
  have h1:=List.length_filter_le (λq=>betI q a b) (y.take m)
  have h2:=List.length_take_le m y;rw [hst,List.length_cons,List.length_cons];omega
 refine bifP (λhb2=>?_) λhb2=>?_
 ·have hlt2:m<y.length:=by have:=of_decide_eq_true hb2;omega
  simp only [at0 y hlt2];have hstep:=q2d y z0 m hlt2;rw [at0 y hlt2] at hstep;refine ⟨by omega,bifP (λhc=>⟨by simp only [List.length_cons,List.length_nil];omega,by omega,(m+1,st++[rAt y m]),⟨by omega,?_⟩,by omega,by omega,rfl⟩) λhc=>⟨by omega,(m+1,st),⟨by omega,?_⟩,by omega,by omega,rfl⟩⟩
  ·dsimp only
   rw [hstep,List.filter_append,hst,List.filter_cons,hc];rfl
  ·dsimp only
   rw [hstep,List.filter_append,hst,List.filter_cons,hc];simp
 have:m=y.length:=by have:=of_decide_eq_false hb2;omega
 subst this;rw [List.take_length] at hst;have hst:st=cutsL y a b:=hst;have hfew:st.length≤12:=by rw [hst];exact cuts_few hvy h12 hab
 have h2st:2≤st.length:=by rw [hst];show 2≤_+1+1;omega
 have hw:IntKind.u64.wrap (st.length:Int)=st.length:=by simp [IntKind.wrap,IntKind.bits,IntKind.signed];omega
 rw [hw];refine ⟨by omega,⟨(),trivial⟩,λ_ _=>⟨by omega,bifP (λhc=>?_) λhc=>absurd (of_decide_eq_false hc) (by omega)⟩⟩
 refine ⟨by omega,⟨(1,st),⟨Nat.le_refl _,by omega,List.Perm.refl _,λm n h1 h2=>by omega⟩,rfl,rfl⟩,?_⟩
 rintro ⟨i,L⟩ ⟨hi1,hi2,hperm,hup⟩;dsimp only at hi1 hi2 hperm hup ⊢;have hLl:=hperm.length_eq;refine bifP (λhci=>?_) λhci=>?_
 ·have hil:i<st.length:=by have:=of_decide_eq_true hci;omega
  try simp only [Int.toNat_natCast]
  refine ⟨⟨(i,L),ins_start (List.Perm.refl _) (by dsimp only;omega) hup,rfl,rfl⟩,?_⟩
  rintro ⟨j,M⟩ hins;dsimp only at hins ⊢;have hMl:=hins.1.length_eq;have hji:=hins.2.1;refine bifP (λhj=>?_) λhj=>?_
  ·have hj0:0<j:=by have:=of_decide_eq_true hj;omega
   have e1:((j:Int)-1).toNat=j-1:=by omega
   have d1:=qeb a (M.getD j z0);have d2:=qeb a (M.getD (j-1) z0);simp only [e1];refine ⟨by omega,by omega,by omega,by dsimp only [z0] at d1 d2;omega,bifP (λhlt=>?_) λhge=>?_⟩
   ·have hlt:=of_decide_eq_true hlt
    rw [show Nat.beq j j=true from Nat.beq_refl j,show Nat.beq (j-1) (j-1)=true from Nat.beq_refl (j-1),cond_true,cond_true];refine ⟨by omega,by omega,by omega,by omega,by omega,by rw [List.length_set];omega,by omega,(j-1,swapL M j),ins_step hins hj0 (by dsimp only [z0] at d1 d2 ⊢;omega),by dsimp only;omega,by dsimp only;omega,rfl⟩
   ·have hge:=of_decide_eq_false hge
    exact ⟨by omega,(i+1,M),⟨by omega,by omega,hins.1.trans hperm,ins_end hins (.inr (by dsimp only [z0] at d1 d2 ⊢;omega))⟩,by omega,by omega,rfl⟩
  ·have hj0:j=0:=by have:=of_decide_eq_false hj;omega
   exact ⟨by omega,(i+1,M),⟨by omega,by omega,hins.1.trans hperm,ins_end hins (.inl hj0)⟩,by omega,by omega,rfl⟩
 have hil:i=st.length:=by have:=of_decide_eq_false hci;omega
 rw [hil,← hLl] at hup;rw [hst] at hperm;have hS:=qjw ha hbb hab hperm hup;have hSl:=stops_len hvy h12 hab hperm;have hS2:2≤(q2i L).length:=two_of_ne (a:=a) (b:=b) ((qbm _ _).2 (hperm.mem_iff.2 (List.mem_cons_self ..))) ((qbm _ _).2 (hperm.mem_iff.2 (List.mem_cons_of_mem _ (List.mem_cons_self ..)))) hab;refine ⟨bifP (λh2=>⟨_,rfl,?_⟩) λh2=>⟨⟨1,⟨Nat.le_refl _,by omega,qf7 L⟩,rfl⟩,?_⟩,?_⟩
 ·have:=of_decide_eq_true h2;omega
 ·rintro k ⟨hk1,hk2,hkc⟩
  have e1:((k:Int)-1).toNat=k-1:=by omega
  simp only [e1,Bool.and_true];refine bifP (λhkl=>?_) λhkl=>?_
  ·have hkl:k<L.length:=by have:=of_decide_eq_true hkl;omega
   refine ⟨by omega,by omega,by omega,bifP (λhe=>?_) λhe=>?_⟩
   ·refine ⟨by omega,⟨(k,1,L),co_start hk1 hkl hkc he,⟨rfl,rfl⟩,rfl⟩,?_⟩
    rintro ⟨kk,k2,c⟩ hco;dsimp only at hco ⊢;obtain ⟨a1,a2,a3,a4,a5,a6,a7,a8,a9⟩:=id hco;have e2:((k2:Int)-1).toNat=k2-1:=by omega
    have e3:k+(k2-1)=k+k2-1:=by omega
    simp only [e2,e3];refine bifP (λhk2=>?_) λhk2=>?_
    ·have hk2:k+k2<L.length:=by have:=of_decide_eq_true hk2;omega
     refine ⟨by omega,by omega,by omega,bifP (λhne=>?_) λheq=>?_⟩
     ·rw [show Nat.beq kk kk=true from Nat.beq_refl kk,cond_true]
      exact ⟨by omega,by omega,by omega,by omega,(kk+1,k2+1,_),co_keep hco hk2 (cast (Bool.not_eq_true' _) hne),by dsimp only;omega,⟨by dsimp only;omega,by dsimp only;omega⟩,rfl⟩
     ·exact ⟨by omega,(kk,k2+1,c),co_skip hco hk2 (cast (Bool.not_eq_false' _) heq),by dsimp only;omega,⟨rfl,by dsimp only;omega⟩,rfl⟩
    ·have hk2:L.length≤k+k2:=by have:=of_decide_eq_false hk2;omega
     exact ⟨by omega,by simp only [List.length_append,List.length_take,List.length_replicate];omega,_,rfl,co_end hco hk2 _⟩
   ·refine ⟨by omega,k+1,⟨by omega,by omega,?_⟩,by omega,by omega⟩
    have he:(L.getD k z0==L.getD (k-1) z0)=false:=he;rw [qcg L hk1 hkl,hkc,he,q2d L z0 k hkl];simp
  ·have hkl:k=L.length:=by have:=of_decide_eq_false hkl;omega
   refine ⟨_,rfl,?_⟩;rw [hkl,List.take_length] at hkc;exact hkc.symm
 ·rintro S rfl
  refine ⟨by omega,⟨(0,out),⟨by omega,by simp⟩,rfl,rfl⟩,?_⟩
  rintro ⟨q,o⟩ ⟨hq,hoq⟩;dsimp only at hq hoq ⊢;have hoql:o.length≤480+12:=by
   have:=List.length_take_le q (q2j (q2i L))
   rw [hoq,List.length_append];omega
  have on:∀ k,k<(q2i L).length→onB ((q2i L).getD k z0)=true:=λk hk=>by
   have h1:=(qbm L _).1 (q1l (q2i L) z0 k hk);rcases List.mem_cons.1 (hperm.mem_iff.1 h1) with e | h1
   ·rw [e];exact ha
   ·rcases List.mem_cons.1 h1 with e | h1
    ·rw [e];exact hbb
    ·exact Geo.q6m (List.mem_filter.1 h1).2
  refine bifP (λhqb=>?_) λhqb=>?_
  ·have hq1:q+1<(q2i L).length:=by have:=of_decide_eq_true hqb;omega
   have o1:=q0x (on q (by omega))
   have o2:=q0x (on (q+1) hq1);dsimp only [z0] at o1 o2;simp only [show 1+q=q+1 by omega,List.length_cons,List.length_nil]
   refine ⟨by omega,by omega,by omega,by omega,by omega,by omega,by omega,(q+1,_),⟨by omega,?_⟩,by omega,by omega,rfl⟩
   dsimp only;rw [mids_take _ hq1,← List.append_assoc,hoq]
  ·have hq1:q+1=(q2i L).length:=by have:=of_decide_eq_false hqb;omega
   refine ⟨by omega,(p+1,o),⟨by omega,?_⟩,by omega,by omega,rfl⟩
   dsimp only;rw [hms,hoq,hS,List.take_of_length_le (by rw [q95,← hS];omega)]
end Go.Proofs.YtednmlmllbkhhaaGreatDoor

/-
  Several texts in one: ZnU, ZnV, ZrQ, ZnW0, R15N, ZrTa, ZnX0, ZrT, ZrL.
-/
import Derived.Test.YtednmlmllbkhhaaGreatDoorPN
import Derived.Test.YtednmlmllbkhhaaGreatDoorPP
import Derived.Test.YtednmlmllbkhhaaGreatDoorPK
import Derived.OpenShut
set_option linter.unusedVariables false
namespace Go.Proofs.YtednmlmllbkhhaaGreatDoor
open Go.RowKit R Geo.Zn Zl
theorem qem {α β:Type} {eq:α→α→Bool} (he:∀ a b,eq a b=true↔a=b) (a n:α) (v:β):∀ xs:List (α×β),(n=a→Mp.get eq n (Mp.put eq a v xs)=some v)∧(n≠a→Mp.get eq n (Mp.put eq a v xs)=Mp.get eq n xs)
 | []=>by
  show (n=a→(if eq n a=true then some v else none)=some v)∧(n≠a→(if eq n a=true then some v else none)=none)
  exact ⟨λh=>if_pos ((he _ _).2 h),λh=>if_neg λe=>h ((he _ _).1 e)⟩
 | x::r=>by
  have ih:=qem he a n v r;show (n=a→Mp.get eq n (if eq a x.1=true then (a,v)::r else x::Mp.put eq a v r)=some v)∧(n≠a→Mp.get eq n (if eq a x.1=true then (a,v)::r else x::Mp.put eq a v r)=(if eq n x.1=true then some x.2 else Mp.get eq n r))
  by_cases hx:a=x.1
  ·rw [if_pos ((he _ _).2 hx)]
   show (n=a→(if eq n a=true then some v else Mp.get eq n r)=some v)∧(n≠a→(if eq n a=true then some v else Mp.get eq n r)=_)
   refine ⟨λh=>if_pos ((he _ _).2 h),λh=>?_⟩
   rw [if_neg (λe=>h ((he _ _).1 e)),if_neg (λe=>h (((he _ _).1 e).trans hx.symm))]
  ·rw [if_neg (λe=>hx ((he _ _).1 e))]
   show (n=a→(if eq n x.1=true then some x.2 else Mp.get eq n (Mp.put eq a v r))=some v)∧(n≠a→(if eq n x.1=true then some x.2 else Mp.get eq n (Mp.put eq a v r))=_)
   refine ⟨λh=>?_,λh=>?_⟩
   ·rw [if_neg (λe=>hx (h.symm.trans ((he _ _).1 e))),ih.1 h]
   ·rw [ih.2 h]
theorem getZ_put (k q:Str) (v:Bool) (m:List (Str×Bool)):getZ k (Mp.put (λ(x y:List UInt8)=>x==y) q v m)=if k=q then some v else getZ k m:=by
 have he:∀ a b:List UInt8,(a==b)=true↔a=b:=λa b=>beq_iff_eq
 show Mp.get (λ(x y:List UInt8)=>x==y) k _=if k=q then some v else Mp.get (λ(x y:List UInt8)=>x==y) k m
 by_cases h:k=q
 ·rw [if_pos h];exact (qem he q k v m).1 h
 ·rw [if_neg h];exact (qem he q k v m).2 h
abbrev ar0:Ar:=(([]:List UInt8),(0:Int),([]:List P2))
theorem seen_next {l:List Ar} {k:Nat} {m:List (Str×Bool)} (h:SeenZ l k m) (hk:k<l.length) (hg:(getZ (l.getD k ar0).1 m).getD false=false) (ho:okA Lx.q03 (l.getD k ar0)=true) :
  SeenZ l (k+1) (Mp.put (λ(x y:List UInt8)=>x==y) (l.getD k ar0).1 true m):=by
 obtain ⟨h1,h2,h3,h4⟩:=h;refine ⟨by omega,λs=>?_,?_,?_⟩
 ·rw [getZ_put,qbp l ar0 _ k hk]
  by_cases hs:s=(l.getD k ar0).1
  ·rw [if_pos hs]
   have:((l.getD k ar0).1==s)=true:=beq_iff_eq.2 hs.symm
   rw [this,Bool.or_true];rfl
  ·rw [if_neg hs,h2]
   have:((l.getD k ar0).1==s)=false:=beq_eq_false_iff_ne.2 λe=>hs e.symm
   rw [this,Bool.or_false]
 ·rw [q8v l ar0 _ k hk,h3,ho];rfl
 ·rw [q2d l ar0 k hk,List.map_append,List.nodup_append]
  refine ⟨h4,by simp,λa ha b hb=>?_⟩
  have hb:b=(l.getD k ar0).1:=by simpa using hb
  rw [h2] at hg;intro e;obtain ⟨x,hx,rfl⟩:=List.mem_map.1 ha;have:=List.any_eq_false.1 hg x hx;exact this (beq_iff_eq.2 (e.trans hb))
theorem seen_end {l:List Ar} {m:List (Str×Bool)} (h:SeenZ l l.length m):q0k Lx.q03 l=decide (l.length≤400):=by
 obtain ⟨_,_,h3,h4⟩:=h;rw [List.take_length] at h3 h4;unfold q0k;rw [h3,qb5.2 h4];rfl
theorem seen_no {l:List Ar} {k:Nat} (hk:k<l.length) (ho:okA Lx.q03 (l.getD k ar0)=false):false=q0k Lx.q03 l:=by
 symm
 unfold q0k;rw [qbk l ar0 _ k hk ho];rfl
theorem seen_twice {l:List Ar} {k:Nat} {m:List (Str×Bool)} (h:SeenZ l k m) (hk:k<l.length) (hg:(getZ (l.getD k ar0).1 m).getD false=true):false=q0k Lx.q03 l:=by
 symm
 rw [← Bool.not_eq_true,q7v];rintro ⟨_,hn,_⟩;rw [h.2.1] at hg;obtain ⟨x,hx,e⟩:=List.any_eq_true.1 hg;have hn2:=hn;rw [← List.take_append_drop k l,List.map_append,List.nodup_append] at hn2;refine hn2.2.2 x.1 (List.mem_map.2 ⟨x,hx,rfl⟩) (l.getD k ar0).1 (List.mem_map.2 ⟨_,?_,rfl⟩) (eq_of_beq e);rw [List.drop_eq_getElem_cons hk];have:l.getD k ar0=l[k]:=by rw [List.getD_eq_getElem?_getD,List.getElem?_eq_getElem hk];rfl
 rw [this];exact List.mem_cons_self ..
theorem qf0 (l:List Ar) (n:Int) {k:Nat} (hk:k<l.length):ofK (l.take (k+1)) n=ofK (l.take k) n++(if (l.getD k ar0).2.1==n then [l.getD k ar0] else []):=by
 unfold ofK;rw [q2d l ar0 k hk,List.filter_append,List.filter_cons];rfl
theorem hits_succ (l:List Ar) (n:Int) (p:P2) {k:Nat} (hk:k<l.length):q2n l n p (k+1)=q2n l n p k++(if (l.getD k ar0).2.1==n&&decide (0≤q1i (l.getD k ar0).2.2 p) then [(l.getD k ar0).1] else []):=by
 unfold q2n;rw [qf0 l n hk,List.filter_append,List.map_append]
 congr 1
 cases h1:(l.getD k ar0).2.1==n
 ·rfl
 ·rw [Bool.true_and,if_pos rfl,List.filter_cons,List.filter_nil]
  show ((if decide (0≤q1i (l.getD k ar0).2.2 p)=true then [l.getD k ar0] else []).map λa:Ar=>a.1)=_
  split <;> rfl
theorem in_succ (l:List Ar) (n:Int) (p:P2) {k:Nat} (hk:k<l.length):inTo l n p (k+1)=(inTo l n p k||((l.getD k ar0).2.1==n&&decide (0<q1i (l.getD k ar0).2.2 p))):=by
 unfold inTo;rw [qf0 l n hk,List.any_append]
 congr 1
 cases h1:(l.getD k ar0).2.1==n
 ·rfl
 ·simp
theorem hits_len (l:List Ar) (n:Int) (p:P2) (k:Nat):(q2n l n p k).length≤l.length:=by
 unfold q2n ofK;rw [List.length_map];exact Nat.le_trans (List.length_filter_le _ _) (Nat.le_trans (List.length_filter_le _ _) (by rw [List.length_take];omega))
set_option maxRecDepth 100000 in
theorem kn_vc (n:Int) :
    bif decide ((1:Int)≤n) then decide (n≤(3:Int))=q1f n else false=q1f n
     := by
  unfold q1f;exact bifP (λh=>by rw [h,Bool.true_and]) λh=>by rw [h,Bool.false_and]
set_option maxRecDepth 100000 in
theorem zv_vc (l:List Ar) (h:q8r.pre l) :
    (∃ (p':Nat×List (Str×Bool)),SeenZ l p'.1 p'.2∧((0:Int)=(p'.1:Int)∧l=l∧True∧l=l∧(l.length:Int)=(l.length:Int)∧True)∧True∧True∧True∧([]=p'.2 ∧
    True)∧True∧True∧True∧True∧True)∧∀ (p:Nat×List (Str×Bool)),SeenZ l p.1 p.2→bif decide ((p.1:Int)<(l.length:Int)) then ((0:Int)≤(p.1:Int)∧(p.1:Int) <
    (l.length:Int))∧(l.getD (p.1:Int).toNat ([],(0:Int),[])).1.length≤(1000:Nat)∧bif !Lx.q03 (l.getD (p.1:Int).toNat ([],(0:Int),[])).1 then false=q0k Lx.q03 l
    else bif (Mp.get (λ(x x_1:List UInt8)=>x==x_1) (l.getD (p.1:Int).toNat ([],(0:Int),[])).1 p.2).getD false then false=q0k Lx.q03 l else True∧bif !q1f (l.getD (↑p.1
    : Int).toNat ([],(0:Int),[])).2.1 then false=q0k Lx.q03 l else (l.getD (p.1:Int).toNat ([],(0:Int),[])).2.2.length≤(1000:Nat)∧bif !q05 (l.getD (p.1:Int).toNat
    ([],(0:Int),[])).2.2 then false=q0k Lx.q03 l else ((-9223372036854775808:Int)≤(p.1:Int)+(1:Int)∧(p.1:Int)+(1:Int)≤(9223372036854775807:Int))∧∃ (p':Nat
    × List (Str×Bool)),SeenZ l p'.1 p'.2∧l.length-p'.1<l.length-p.1∧((p.1:Int)+(1:Int)=(p'.1:Int)∧l=l∧True∧l=l∧(l.length:Int)=(l.length:Int)∧True)
    ∧ True∧True∧True∧(Mp.put (λ(x x_1:List UInt8)=>x==x_1) (l.getD (p.1:Int).toNat ([],(0:Int),[])).1 true p.2=p'.2∧True)∧True∧True∧True∧True∧True else decide
    ((l.length:Int)≤(400:Int))=q0k Lx.q03 l
     := by
  obtain ⟨hl,hf⟩:l.length≤6∧∀ a∈l,a.1.length≤100∧a.2.2.length≤12:=h;simp only [and_true,true_and,eq_self,and_self];refine ⟨⟨(0,[]),⟨Nat.zero_le _,λs=>rfl,rfl,List.nodup_nil⟩,rfl,rfl⟩,?_⟩
  rintro ⟨k,m⟩ hs;dsimp only at hs ⊢;refine bifP (λhb=>?_) λhb=>?_
  rotate_left
  · have:k=l.length:=by have:=of_decide_eq_false hb;have:=hs.1;omega
    subst this;rw [seen_end hs];have:(decide ((l.length:Int)≤400))=decide (l.length≤400):=by
      rw [decide_eq_decide];omega
    exact this
  have hk:k<l.length:=by have:=of_decide_eq_true hb;omega
  have hm:=hf _ (q1l l ar0 k hk);simp only [Int.toNat_natCast];have ho:okA Lx.q03 (l.getD k ar0)=(Lx.q03 (l.getD k ar0).1&&(q1f (l.getD k ar0).2.1&&q05 (l.getD k ar0).2.2)):=rfl;refine ⟨by omega,by have:=hm.1;dsimp only [ar0] at this;omega,bifP (λh1=>seen_no hk ?_) λh1=>bifP (λh2=>seen_twice hs hk h2) λh2=>bifP (λh3=>seen_no hk ?_) λh3=>⟨by have:=hm.2;dsimp only [ar0] at this;omega,bifP (λh4=>seen_no hk ?_) λh4=>⟨by omega,(k+1,_),seen_next hs hk h2 ?_,by dsimp only;omega,by dsimp only;omega,rfl⟩⟩⟩
  · rw [ho,show Lx.q03 (l.getD k ar0).1=false from cast (Bool.not_eq_true' _) h1];rfl
  · rw [ho,show q1f (l.getD k ar0).2.1=false from cast (Bool.not_eq_true' _) h3,Bool.false_and,Bool.and_false]
  · rw [ho,show q05 (l.getD k ar0).2.2=false from cast (Bool.not_eq_true' _) h4,Bool.and_false,Bool.and_false]
  · rw [ho,show Lx.q03 (l.getD k ar0).1=true from cast (Bool.not_eq_false' _) h1,show q1f (l.getD k ar0).2.1=true from cast (Bool.not_eq_false' _) h3,show q05 (l.getD k ar0).2.2=true from cast (Bool.not_eq_false' _) h4];rfl
abbrev qb0 (l:List Ar) (p:Nat) (p':Nat):Prop :=
 ((p:Int)+1=(p':Int)∧True∧True∧True∧l=l∧(l.length:Int)=(l.length:Int)∧True)
set_option maxRecDepth 100000 in
theorem lo_vc (l:List Ar) (n x y:Int) (h:cLook.pre (l,n,x,y)) :
  FewZ l∧bif !q0k Lx.q03 l then ([],false,(1:Int))=q1j Lx.q03 l n (x,y) else True∧bif !q1f n then ([],false,(1:Int))=q1j Lx.q03 l n (x,y) else True∧bif !onB (x,y) then ([],false,(1:Int))=q1j Lx.q03 l n (x,y) else (∃ (p':Nat),p'≤l.length∧((0:Int)=(p':Int)∧True∧True∧True∧l=l∧(l.length:Int)=(l.length:Int)∧True)∧((True∧True)∧(false=inTo l n (x,y) p'∧True)∧(l=l∧True)∧(n=n∧True)∧(x=x∧y=y∧True)∧True)∧(q2n l n (x,y) p'=[]∧True)∧True∧True∧(True∧True∧True∧True)∧True∧True∧True∧True∧(True∧True∧True∧True)∧True)∧∀ (p:Nat),p≤l.length→bif decide ((p:Int)<(l.length:Int)) then (0≤(p:Int)∧(p:Int)<(l.length:Int))∧bif (l.getD (p:Int).toNat ([],(0:Int),[])).2.1==n then ((l.getD (p:Int).toNat ([],(0:Int),[])).2.2.length≤(1000:Nat)∧onB (x,y)=true)∧bif decide ((0:Int)≤q1i (l.getD (p:Int).toNat ([],(0:Int),[])).2.2 (x,y)) then ((q2n l n (x,y) p).length+[(l.getD (p:Int).toNat ([],(0:Int),[])).1].length)*(16:Nat)≤(140737488355328:Nat)∧bif inTo l n (x,y) p then (zFit ((p:Int)+1))∧∃ (p':Nat),p'≤l.length∧l.length-p'<l.length-p∧(qb0 l p p')∧((True∧True)∧(true=inTo l n (x,y) p'∧True)∧(l=l∧True)∧(n=n∧True)∧(x=x∧y=y∧True)∧True)∧(q2n l n (x,y) p++[(l.getD (p:Int).toNat ([],(0:Int),[])).1]=q2n l n (x,y) p'∧True)∧True∧True∧(True∧True∧True∧True)∧True∧True∧True∧True∧(True∧True∧True∧True)∧True else (zFit ((p:Int)+1))∧∃ (p':Nat),p'≤l.length∧l.length-p'<l.length-p∧(qb0 l p p')∧((True∧True)∧(decide ((0:Int)<q1i (l.getD (p:Int).toNat ([],(0:Int),[])).2.2 (x,y))=inTo l n (x,y) p'∧True)∧(l=l∧True)∧(n=n∧True)∧(x=x∧y=y∧True)∧True)∧(q2n l n (x,y) p++[(l.getD (p:Int).toNat ([],(0:Int),[])).1]=q2n l n (x,y) p'∧True)∧True∧True∧(True∧True∧True∧True)∧True∧True∧True∧True∧(True∧True∧True∧True)∧True else bif inTo l n (x,y) p then (zFit ((p:Int)+1))∧∃ (p':Nat),p'≤l.length∧l.length-p'<l.length-p∧(qb0 l p p')∧((True∧True)∧(true=inTo l n (x,y) p'∧True)∧(l=l∧True)∧(n=n∧True)∧(x=x∧y=y∧True)∧True)∧(q2n l n (x,y) p=q2n l n (x,y) p'∧True)∧True∧True∧(True∧True∧True∧True)∧True∧True∧True∧True∧(True∧True∧True∧True)∧True else (zFit ((p:Int)+1))∧∃ (p':Nat),p'≤l.length∧l.length-p'<l.length-p∧(qb0 l p p')∧((True∧True)∧(decide ((0:Int)<q1i (l.getD (p:Int).toNat ([],(0:Int),[])).2.2 (x,y))=inTo l n (x,y) p'∧True)∧(l=l∧True)∧(n=n∧True)∧(x=x∧y=y∧True)∧True)∧(q2n l n (x,y) p=q2n l n (x,y) p'∧True)∧True∧True∧(True∧True∧True∧True)∧True∧True∧True∧True∧(True∧True∧True∧True)∧True else (zFit ((p:Int)+1))∧∃ (p':Nat),p'≤l.length∧l.length-p'<l.length-p∧(qb0 l p p')∧((True∧True)∧(inTo l n (x,y) p=inTo l n (x,y) p'∧True)∧(l=l∧True)∧(n=n∧True)∧(x=x∧y=y∧True)∧True)∧(q2n l n (x,y) p=q2n l n (x,y) p'∧True)∧True∧True∧(True∧True∧True∧True)∧True∧True∧True∧True∧(True∧True∧True∧True)∧True else (q2n l n (x,y) p).length≤(1000000:Nat)∧(q3u (q2n l n (x,y) p),inTo l n (x,y) p,(0:Int))=q1j Lx.q03 l n (x,y):=by
 delta qb0 zFit
 have h:FewZ l:=h;have hl:l.length≤6:=h.1;simp only [and_true,true_and,eq_self,and_self];have hL:q1j Lx.q03 l n (x,y)=if q0k Lx.q03 l&&(q1f n&&onB (x,y)) then (idsZ l n (x,y),inZ l n (x,y),0) else ([],false,1):=rfl
 rw [hL];refine ⟨h,bifP (λh1=>?_) λh1=>bifP (λh2=>?_) λh2=>bifP (λh3=>?_) λh3=>?_⟩
 ·rw [show q0k Lx.q03 l=false from cast (Bool.not_eq_true' _) h1];rfl
 ·rw [show q1f n=false from cast (Bool.not_eq_true' _) h2,Bool.false_and,Bool.and_false];rfl
 ·rw [show onB (x,y)=false from cast (Bool.not_eq_true' _) h3,Bool.and_false,Bool.and_false];rfl
 have h1:q0k Lx.q03 l=true:=cast (Bool.not_eq_false' _) h1;have h2:q1f n=true:=cast (Bool.not_eq_false' _) h2;have h3:onB (x,y)=true:=cast (Bool.not_eq_false' _) h3;rw [h1,h2,h3];refine ⟨⟨0,Nat.zero_le _,rfl,rfl,rfl⟩,λk hk=>bifP (λhb=>?_) λhb=>?_⟩
 rotate_left
 ·have:k=l.length:=by have:=of_decide_eq_false hb;omega
  subst this;refine ⟨by have:=hits_len l n (x,y) l.length;omega,?_⟩
  unfold q2n inTo;rw [List.take_length];rfl
 have hkl:k<l.length:=by have:=of_decide_eq_true hb;omega
 have hm:=h.2 _ (q1l l ar0 k hkl);have e1:=hits_succ l n (x,y) hkl;have e2:=in_succ l n (x,y) hkl;have hh:=hits_len l n (x,y) k;simp only [Int.toNat_natCast,List.length_cons,List.length_nil];dsimp only [ar0] at hm e1 e2;refine ⟨by omega,bifP (λc1=>⟨⟨by omega,trivial⟩,bifP (λc2=>⟨by omega,bifP (λc3=>⟨by omega,k+1,by omega,by omega,by omega,?_,?_⟩) λc3=>⟨by omega,k+1,by omega,by omega,by omega,?_,?_⟩⟩) λc2=>bifP (λc3=>⟨by omega,k+1,by omega,by omega,by omega,?_,?_⟩) λc3=>⟨by omega,k+1,by omega,by omega,by omega,?_,?_⟩⟩) λc1=>⟨by omega,k+1,by omega,by omega,by omega,?_,?_⟩⟩
 all_goals first
  | (rw [e2,c3];rfl)
  | (rw [e2,c3,c1];rfl)
  | (rw [e2,c1,Bool.false_and,Bool.or_false])
  | (rw [e1,c1,c2];rfl)
  | (rw [e1,c1,c2];simp)
  | (rw [e1,c1];simp)
set_option maxRecDepth 100000 in
theorem all_vc (l:List Ar) (n x y:Int) (h:cAll.pre (l,n,x,y)) :
    FewZ l∧((q1j Lx.q03 l n (x,y)).1,(q1j Lx.q03 l n (x,y)).2.2)=allZ Lx.q03 l n (x,y)
     := by
  exact ⟨h,rfl⟩
set_option maxRecDepth 100000 in
theorem one_vc (l:List Ar) (n x y:Int) (h:cOne.pre (l,n,x,y)) :
    FewZ l∧bif (q1j Lx.q03 l n (x,y)).2.2 != (0:Int) then ([],(q1j Lx.q03 l n (x,y)).2.2)=oneZ Lx.q03 l n (x,y) else bif (↑(q1j Lx.q03 l n (x,y)).1.length:Int)==(0 :
    Int) then ([],(10:Int))=oneZ Lx.q03 l n (x,y) else bif decide ((1:Int)<(↑(q1j Lx.q03 l n (x,y)).1.length:Int)) then bif (q1j Lx.q03 l n (x,y)).2.1 then ([],(8 :
    Int))=oneZ Lx.q03 l n (x,y) else ((0:Int)≤(0:Int)∧(0:Int)<(↑(q1j Lx.q03 l n (x,y)).1.length:Int))∧((q1j Lx.q03 l n (x,y)).1.getD (Int.toNat (0:Int)) [],(0 :
    Int))=oneZ Lx.q03 l n (x,y) else ((0:Int)≤(0:Int)∧(0:Int)<(↑(q1j Lx.q03 l n (x,y)).1.length:Int))∧((q1j Lx.q03 l n (x,y)).1.getD (Int.toNat (0:Int)) [],(0 :
    Int))=oneZ Lx.q03 l n (x,y)
     := by
  refine ⟨h,?_⟩;have hO:oneZ Lx.q03 l n (x,y)=(if (q1j Lx.q03 l n (x,y)).2.2 != 0 then ([],(q1j Lx.q03 l n (x,y)).2.2) else match (q1j Lx.q03 l n (x,y)).1 with
    | []=>([],10)
    | i::r=>if !r.isEmpty&&(q1j Lx.q03 l n (x,y)).2.1 then ([],8) else (i,0)):=rfl
  rw [hO];generalize q1j Lx.q03 l n (x,y)=q;obtain ⟨ids,ins,er⟩:=q;dsimp only;refine bifP (λh1=>by rw [h1];rfl) λh1=>?_
  rw [h1]
  match ids with
  | []=>exact rfl
  | [i]=>exact ⟨by simp,rfl⟩
  | i::j::r =>
    refine bifP (λh=>absurd (beq_iff_eq.1 h) (by simp only [List.length_cons];omega)) λ_=>bifP (λ_=>bifP (λhi=>by rw [hi];rfl) λhi=>⟨by simp only [List.length_cons];omega,by rw [hi];rfl⟩) λh=>absurd (of_decide_eq_false h) (by simp only [List.length_cons];omega)
theorem qhj (l:List Ar) (n:Int) (f:Ar→Bool) {k:Nat} (hk:k<l.length):(ofK (l.take (k+1)) n).all f=((ofK (l.take k) n).all f&&(!((l.getD k ar0).2.1==n)||f (l.getD k ar0))):=by
 rw [qf0 l n hk,List.all_append]
 congr 1
 cases (l.getD k ar0).2.1==n
 ·rfl
 ·simp
theorem ofK_any (l:List Ar) (n:Int) (f:Ar→Bool) {k:Nat} (hk:k<l.length):(ofK (l.take (k+1)) n).any f=((ofK (l.take k) n).any f||((l.getD k ar0).2.1==n&&f (l.getD k ar0))):=by
 rw [qf0 l n hk,List.any_append]
 congr 1
 cases (l.getD k ar0).2.1==n
 ·rfl
 ·simp
theorem qdd {l:List Ar} {n:Int} {k:Nat} (hk:k<l.length) (h:((l.getD k ar0).2.1==n)=true):l.getD k ar0∈ofK l n:=List.mem_filter.2 ⟨q1l l ar0 k hk,h⟩
abbrev qdu (l:List Ar) (n:Int) (p:Nat):Prop :=
 ((l=l∧True)∧(n=n∧True)∧(True∧True)∧(false=false∧True)∧(l=l∧True)∧(n=n∧True)∧((l.getD (p:Int).toNat ([],(0:Int),[])).1=(l.getD (p:Int).toNat ([],(0:Int),[])).1∧(l.getD (p:Int).toNat ([],(0:Int),[])).2.1=(l.getD (p:Int).toNat ([],(0:Int),[])).2.1∧(l.getD (p:Int).toNat ([],(0:Int),[])).2.2=(l.getD (p:Int).toNat ([],(0:Int),[])).2.2∧True)∧((l.getD (p:Int).toNat ([],(0:Int),[])).1=(l.getD (p:Int).toNat ([],(0:Int),[])).1∧(l.getD (p:Int).toNat ([],(0:Int),[])).2.1=(l.getD (p:Int).toNat ([],(0:Int),[])).2.1∧(l.getD (p:Int).toNat ([],(0:Int),[])).2.2=(l.getD (p:Int).toNat ([],(0:Int),[])).2.2∧True)∧(True∧True)∧(false=false∧True)∧(l=l∧True)∧(n=n∧True)∧True)
abbrev qd6 (l:List Ar) (p:Nat):Prop :=
 (True∧True∧True∧True∧True∧True∧True∧l=l∧(l.length:Int)=(l.length:Int)∧(p:Int)=(p:Int)∧true=true∧True∧True∧true=true∧True)
abbrev qhl (l:List Ar) (n:Int):Prop :=
 ((l=l∧True)∧(n=n∧True)∧(True∧True)∧(false=false∧True)∧(l=l∧True)∧(n=n∧True)∧True)
abbrev qd1 (l:List Ar) (n:Int) (p:Nat) (p':Nat):Prop :=
 (p'≤l.length∧(ofK (List.take p' l) n).all (apB (l.getD (p:Int).toNat ([],(0:Int),[])))=true)
abbrev qhv (l:List Ar) (p':Nat) (p_1:Nat):Prop :=
 ((p_1:Int)+1=(p':Int)∧True∧True∧True∧l=l∧(l.length:Int)=(l.length:Int)∧True)
set_option maxRecDepth 100000 in
theorem az_vc (l:List Ar) (n:Int) (h:qax.pre (l,n)) :
  FewZ l∧bif q0k Lx.q03 l then True∧bif q1f n then (∃ (p':Nat),(p'≤l.length∧((ofK (List.take p' l) n).all λ(a:Ar)=>(ofK l n).all (apB a))=true)∧((0:Int)=(p':Int)∧True∧True∧True∧l=l∧(l.length:Int)=(l.length:Int)∧True)∧(qhl l n)∧True∧True∧True∧(True∧True∧true=true∧True)∧True∧True∧True∧True∧(True∧True∧True)∧True)∧∀ (p:Nat),p≤l.length∧((ofK (List.take p l) n).all λ(a:Ar)=>(ofK l n).all (apB a))=true→bif decide ((p:Int)<(l.length:Int)) then (0≤(p:Int)∧(p:Int)<(l.length:Int))∧bif (l.getD (p:Int).toNat ([],(0:Int),[])).2.1==n then (∃ (p':Nat),(qd1 l n p p')∧((0:Int)=(p':Int)∧True∧True∧True∧l=l∧(l.length:Int)=(l.length:Int)∧True)∧(qdu l n p)∧True∧True∧True∧(qd6 l p)∧True∧True∧True∧True∧(True∧True∧True)∧True∧(True∧True∧True)∧True)∧∀ (p_1:Nat),p_1≤l.length∧(ofK (List.take p_1 l) n).all (apB (l.getD (p:Int).toNat ([],(0:Int),[])))=true→bif decide ((p_1:Int)<(l.length:Int)) then (0≤(p_1:Int)∧(p_1:Int)<(l.length:Int))∧bif (l.getD (p_1:Int).toNat ([],(0:Int),[])).2.1==n then bif (l.getD (p:Int).toNat ([],(0:Int),[])).1==(l.getD (p_1:Int).toNat ([],(0:Int),[])).1 then (zFit ((p_1:Int)+1))∧∃ (p':Nat),(qd1 l n p p')∧l.length-p'<l.length-p_1∧(qhv l p' p_1)∧(qdu l n p)∧True∧True∧True∧(qd6 l p)∧True∧True∧True∧True∧(True∧True∧True)∧True∧(True∧True∧True)∧True else ((l.getD (p:Int).toNat ([],(0:Int),[])).2.2.length≤(12:Nat)∧(l.getD (p_1:Int).toNat ([],(0:Int),[])).2.2.length≤(12:Nat))∧bif !q1k (l.getD (p:Int).toNat ([],(0:Int),[])).2.2 (l.getD (p_1:Int).toNat ([],(0:Int),[])).2.2 then false=q34 Lx.q03 l n else (zFit ((p_1:Int)+1))∧∃ (p':Nat),(qd1 l n p p')∧l.length-p'<l.length-p_1∧(qhv l p' p_1)∧(qdu l n p)∧True∧True∧True∧(qd6 l p)∧True∧True∧True∧True∧(True∧True∧True)∧True∧(True∧True∧True)∧True else (zFit ((p_1:Int)+1))∧∃ (p':Nat),(qd1 l n p p')∧l.length-p'<l.length-p_1∧(qhv l p' p_1)∧(qdu l n p)∧True∧True∧True∧(qd6 l p)∧True∧True∧True∧True∧(True∧True∧True)∧True∧(True∧True∧True)∧True else (zFit ((p:Int)+1))∧∃ (p':Nat),(p'≤l.length∧((ofK (List.take p' l) n).all λ(a:Ar)=>(ofK l n).all (apB a))=true)∧l.length-p'<l.length-p∧((p:Int)+1=(p':Int)∧True∧True∧True∧l=l∧(l.length:Int)=(l.length:Int)∧True)∧(qhl l n)∧True∧True∧True∧(True∧True∧true=true∧True)∧True∧True∧True∧True∧(True∧True∧True)∧True else (zFit ((p:Int)+1))∧∃ (p':Nat),(p'≤l.length∧((ofK (List.take p' l) n).all λ(a:Ar)=>(ofK l n).all (apB a))=true)∧l.length-p'<l.length-p∧((p:Int)+1=(p':Int)∧True∧True∧True∧l=l∧(l.length:Int)=(l.length:Int)∧True)∧(qhl l n)∧True∧True∧True∧(True∧True∧true=true∧True)∧True∧True∧True∧True∧(True∧True∧True)∧True else true=q34 Lx.q03 l n else false=q34 Lx.q03 l n else false=q34 Lx.q03 l n:=by
 delta qdu qd6 qhl qd1 qhv zFit
 have h:FewZ l:=h;have hl:l.length≤6:=h.1;simp only [and_true,true_and,eq_self,and_self];have hA:q34 Lx.q03 l n=(q0k Lx.q03 l&&(q1f n&&(ofK l n).all λa=>(ofK l n).all (apB a))):=rfl
 rw [hA];refine ⟨h,bifP (λh1=>bifP (λh2=>⟨⟨0,⟨Nat.zero_le _,rfl⟩,rfl⟩,?_⟩) λh2=>by rw [h1,h2];rfl) λh1=>by rw [h1];rfl⟩
 rw [h1,h2,Bool.true_and,Bool.true_and];rintro k ⟨hk,ha⟩;refine bifP (λhb=>?_) λhb=>?_
 rotate_left
 ·have:k=l.length:=by have:=of_decide_eq_false hb;omega
  subst this;rw [List.take_length] at ha;exact ha.symm
 have hkl:k<l.length:=by have:=of_decide_eq_true hb;omega
 have hm:=h.2 _ (q1l l ar0 k hkl)
 try simp only [Int.toNat_natCast]
 have e1:=qhj l n (λa=>(ofK l n).all (apB a)) hkl
 refine ⟨by omega,bifP (λc1=>⟨⟨0,⟨Nat.zero_le _,rfl⟩,rfl⟩,?_⟩) λc1=>⟨by omega,k+1,⟨by omega,by rw [e1,ha,c1];rfl⟩,by omega,by omega⟩⟩
 rintro m ⟨hm1,hma⟩;refine bifP (λhb2=>?_) λhb2=>?_
 rotate_left
 ·have:m=l.length:=by have:=of_decide_eq_false hb2;omega
  subst this;rw [List.take_length] at hma;exact ⟨by omega,k+1,⟨by omega,by rw [e1,ha,c1];(try dsimp only);rw [hma];rfl⟩,by omega,by omega⟩
 have hml:m<l.length:=by have:=of_decide_eq_true hb2;omega
 have hm':=h.2 _ (q1l l ar0 m hml)
 try simp only [Int.toNat_natCast]
 have e2:=qhj l n (apB (l.getD k ar0)) hml;refine ⟨by omega,bifP (λc2=>bifP (λc3=>⟨by omega,m+1,⟨by omega,?_⟩,by omega,by omega⟩) λc3=>⟨⟨hm.2,hm'.2⟩,bifP (λc4=>?_) λc4=>⟨by omega,m+1,⟨by omega,?_⟩,by omega,by omega⟩⟩) λc2=>⟨by omega,m+1,⟨by omega,?_⟩,by omega,by omega⟩⟩
 ·show (ofK (l.take (m+1)) n).all (apB (l.getD k ar0))=true
  have:apB (l.getD k ar0) (l.getD m ar0)=true:=by unfold apB;rw [show ((l.getD k ar0).1==(l.getD m ar0).1)=true from c3];rfl
  rw [e2,show (ofK (l.take m) n).all (apB (l.getD k ar0))=true from hma,this];simp
 ·symm
  rw [← Bool.not_eq_true,List.all_eq_true];intro hh;have:=List.all_eq_true.1 (hh _ (qdd hkl c1)) _ (qdd hml c2);unfold apB at this;rw [show ((l.getD k ar0).1==(l.getD m ar0).1)=false from c3,Bool.false_or,show q1k (l.getD k ar0).2.2 (l.getD m ar0).2.2=false from cast (Bool.not_eq_true' _) c4] at this;cases this
 ·show (ofK (l.take (m+1)) n).all (apB (l.getD k ar0))=true
  have:apB (l.getD k ar0) (l.getD m ar0)=true:=by unfold apB;rw [show q1k (l.getD k ar0).2.2 (l.getD m ar0).2.2=true from cast (Bool.not_eq_false' _) c4,Bool.or_true]
  rw [e2,show (ofK (l.take m) n).all (apB (l.getD k ar0))=true from hma,this];simp
 ·show (ofK (l.take (m+1)) n).all (apB (l.getD k ar0))=true
  rw [e2,show (ofK (l.take m) n).all (apB (l.getD k ar0))=true from hma,show ((l.getD m ar0).2.1==n)=false from c2];rfl
abbrev qhu (i:Int) (l:List Ar) (n:Int) (p:Nat):Prop :=
 ((l=l∧True)∧(i=i∧True)∧(True∧True)∧(false=false∧True)∧(l=l∧True)∧(n=n∧True)∧((l.getD (p:Int).toNat ([],(0:Int),[])).1=(l.getD (p:Int).toNat ([],(0:Int),[])).1∧(l.getD (p:Int).toNat ([],(0:Int),[])).2.1=(l.getD (p:Int).toNat ([],(0:Int),[])).2.1∧(l.getD (p:Int).toNat ([],(0:Int),[])).2.2=(l.getD (p:Int).toNat ([],(0:Int),[])).2.2∧True)∧((l.getD (p:Int).toNat ([],(0:Int),[])).1=(l.getD (p:Int).toNat ([],(0:Int),[])).1∧(l.getD (p:Int).toNat ([],(0:Int),[])).2.1=(l.getD (p:Int).toNat ([],(0:Int),[])).2.1∧(l.getD (p:Int).toNat ([],(0:Int),[])).2.2=(l.getD (p:Int).toNat ([],(0:Int),[])).2.2∧True)∧(True∧True)∧(false=false∧True)∧(l=l∧True)∧(i=i∧True)∧True)
abbrev qh9 (l:List Ar) (p:Nat):Prop :=
 (True∧True∧True∧True∧True∧True∧True∧l=l∧(l.length:Int)=(l.length:Int)∧(p:Int)=(p:Int)∧true=true∧True∧True∧true=true∧True)
abbrev qht (i:Int) (l:List Ar) (n:Int):Prop :=
 ((l=l∧True)∧(i=i∧True)∧(True∧True)∧(false=false∧True)∧(l=l∧True)∧(n=n∧True)∧True)
abbrev qhi (i:Int) (l:List Ar) (p:Nat) (p':Nat):Prop :=
 (p'≤l.length∧((ofK (List.take p' l) i).any λ(b:Ar)=>q0i (l.getD (p:Int).toNat ([],(0:Int),[])).2.2 b.2.2)=false)
set_option maxRecDepth 100000 in
theorem nz_vc (l:List Ar) (n i:Int) (h:q8y.pre (l,n,i)) :
  FewZ l∧bif q0k Lx.q03 l then True∧bif q1f n then True∧bif q1f i then (∃ (p':Nat),(p'≤l.length∧((ofK (List.take p' l) n).all λ(a:Ar)=>(ofK l i).any λ(b:Ar)=>q0i a.2.2 b.2.2)=true)∧((0:Int)=(p':Int)∧True∧True∧True∧l=l∧(l.length:Int)=(l.length:Int)∧True)∧(qht i l n)∧True∧True∧True∧(True∧True∧true=true∧True)∧True∧True∧True∧True∧(True∧True∧True)∧True)∧∀ (p:Nat),p≤l.length∧((ofK (List.take p l) n).all λ(a:Ar)=>(ofK l i).any λ(b:Ar)=>q0i a.2.2 b.2.2)=true→bif decide ((p:Int)<(l.length:Int)) then (0≤(p:Int)∧(p:Int)<(l.length:Int))∧bif (l.getD (p:Int).toNat ([],(0:Int),[])).2.1==n then (∃ (p':Nat),(qhi i l p p')∧((0:Int)=(p':Int)∧True∧True∧True∧l=l∧(l.length:Int)=(l.length:Int)∧True)∧(qhu i l n p)∧True∧True∧True∧(qh9 l p)∧True∧True∧True∧True∧(True∧True∧True)∧True∧(True∧True∧True)∧True)∧∀ (p_1:Nat),p_1≤l.length∧((ofK (List.take p_1 l) i).any λ(b:Ar)=>q0i (l.getD (p:Int).toNat ([],(0:Int),[])).2.2 b.2.2)=false→bif decide ((p_1:Int)<(l.length:Int)) then (0≤(p_1:Int)∧(p_1:Int)<(l.length:Int))∧bif (l.getD (p_1:Int).toNat ([],(0:Int),[])).2.1==i then ((l.getD (p:Int).toNat ([],(0:Int),[])).2.2.length≤(12:Nat)∧(l.getD (p_1:Int).toNat ([],(0:Int),[])).2.2.length≤(12:Nat))∧bif !!q0i (l.getD (p:Int).toNat ([],(0:Int),[])).2.2 (l.getD (p_1:Int).toNat ([],(0:Int),[])).2.2 then (zFit ((p:Int)+1))∧∃ (p':Nat),(p'≤l.length∧((ofK (List.take p' l) n).all λ(a:Ar)=>(ofK l i).any λ(b:Ar)=>q0i a.2.2 b.2.2)=true)∧l.length-p'<l.length-p∧((p:Int)+1=(p':Int)∧True∧True∧True∧l=l∧(l.length:Int)=(l.length:Int)∧True)∧(qht i l n)∧True∧True∧True∧(True∧True∧true=true∧True)∧True∧True∧True∧True∧(True∧True∧True)∧True else (zFit ((p_1:Int)+1))∧∃ (p':Nat),(qhi i l p p')∧l.length-p'<l.length-p_1∧((p_1:Int)+1=(p':Int)∧True∧True∧True∧l=l∧(l.length:Int)=(l.length:Int)∧True)∧(qhu i l n p)∧True∧True∧True∧(qh9 l p)∧True∧True∧True∧True∧(True∧True∧True)∧True∧(True∧True∧True)∧True else (zFit ((p_1:Int)+1))∧∃ (p':Nat),(qhi i l p p')∧l.length-p'<l.length-p_1∧((p_1:Int)+1=(p':Int)∧True∧True∧True∧l=l∧(l.length:Int)=(l.length:Int)∧True)∧(qhu i l n p)∧True∧True∧True∧(qh9 l p)∧True∧True∧True∧True∧(True∧True∧True)∧True∧(True∧True∧True)∧True else false=q2e Lx.q03 l n i else (zFit ((p:Int)+1))∧∃ (p':Nat),(p'≤l.length∧((ofK (List.take p' l) n).all λ(a:Ar)=>(ofK l i).any λ(b:Ar)=>q0i a.2.2 b.2.2)=true)∧l.length-p'<l.length-p∧((p:Int)+1=(p':Int)∧True∧True∧True∧l=l∧(l.length:Int)=(l.length:Int)∧True)∧(qht i l n)∧True∧True∧True∧(True∧True∧true=true∧True)∧True∧True∧True∧True∧(True∧True∧True)∧True else true=q2e Lx.q03 l n i else false=q2e Lx.q03 l n i else false=q2e Lx.q03 l n i else false=q2e Lx.q03 l n i:=by
 delta qhu qh9 qht qhi zFit
 have h:FewZ l:=h;have hl:l.length≤6:=h.1;simp only [and_true,true_and,eq_self,and_self];have hA:q2e Lx.q03 l n i=(q0k Lx.q03 l&&(q1f n&&(q1f i&&(ofK l n).all λa=>(ofK l i).any λb=>q0i a.2.2 b.2.2))):=rfl
 rw [hA];refine ⟨h,bifP (λh1=>bifP (λh2=>bifP (λh3=>⟨⟨0,⟨Nat.zero_le _,rfl⟩,rfl⟩,?_⟩) λh3=>by rw [h1,h2,h3];rfl) λh2=>by rw [h1,h2];rfl) λh1=>by rw [h1];rfl⟩
 rw [h1,h2,h3,Bool.true_and,Bool.true_and,Bool.true_and];rintro k ⟨hk,ha⟩;refine bifP (λhb=>?_) λhb=>?_
 rotate_left
 ·have:k=l.length:=by have:=of_decide_eq_false hb;omega
  subst this;rw [List.take_length] at ha;exact ha.symm
 have hkl:k<l.length:=by have:=of_decide_eq_true hb;omega
 have hm:=h.2 _ (q1l l ar0 k hkl)
 try simp only [Int.toNat_natCast]
 have e1:=qhj l n (λa=>(ofK l i).any λb=>q0i a.2.2 b.2.2) hkl
 refine ⟨by omega,bifP (λc1=>⟨⟨0,⟨Nat.zero_le _,rfl⟩,rfl⟩,?_⟩) λc1=>⟨by omega,k+1,⟨by omega,by rw [e1,ha,c1];rfl⟩,by omega,by omega⟩⟩
 rintro m ⟨hm1,hma⟩;refine bifP (λhb2=>?_) λhb2=>?_
 rotate_left
 ·have:m=l.length:=by have:=of_decide_eq_false hb2;omega
  subst this;rw [List.take_length] at hma
  symm
  rw [← Bool.not_eq_true,List.all_eq_true];intro hh;have:=hh _ (qdd hkl c1);rw [show ((ofK l i).any λb=>q0i (l.getD k ar0).2.2 b.2.2)=false from hma] at this
  cases this
 have hml:m<l.length:=by have:=of_decide_eq_true hb2;omega
 have hm':=h.2 _ (q1l l ar0 m hml)
 try simp only [Bool.not_not]
 have e2:=ofK_any l i (λb=>q0i (l.getD k ar0).2.2 b.2.2) hml
 refine ⟨by omega,bifP (λc2=>⟨⟨hm.2,hm'.2⟩,bifP (λc4=>⟨by omega,k+1,⟨by omega,?_⟩,by omega,by omega⟩) λc4=>⟨by omega,m+1,⟨by omega,?_⟩,by omega,by omega⟩⟩) λc2=>⟨by omega,m+1,⟨by omega,?_⟩,by omega,by omega⟩⟩
 ·show (ofK (l.take (k+1)) n).all (λa=>(ofK l i).any λb=>q0i a.2.2 b.2.2)=true
  have:((ofK l i).any λb=>q0i (l.getD k ar0).2.2 b.2.2)=true:=List.any_eq_true.2 ⟨_,qdd hml c2,c4⟩
  rw [e1,ha];try dsimp only
  rw [this];simp
 ·show ((ofK (l.take (m+1)) i).any λb=>q0i (l.getD k ar0).2.2 b.2.2)=false
  rw [e2,show ((ofK (l.take m) i).any λb=>q0i (l.getD k ar0).2.2 b.2.2)=false from hma];try dsimp only
  rw [show q0i (l.getD k ar0).2.2 (l.getD m ar0).2.2=false from c4,Bool.and_false];rfl
 ·show ((ofK (l.take (m+1)) i).any λb=>q0i (l.getD k ar0).2.2 b.2.2)=false
  rw [e2,show ((ofK (l.take m) i).any λb=>q0i (l.getD k ar0).2.2 b.2.2)=false from hma,show ((l.getD m ar0).2.1==i)=false from c2];rfl
set_option maxRecDepth 100000 in
theorem rzKind_vc (n:Int) :
    bif decide ((1:Int)≤n) then decide (n≤(3:Int))=q1f n else false=q1f n
     := by
  unfold q1f;cases decide ((1:Int)≤n) <;> rfl
set_option maxRecDepth 100000 in
theorem rzValid_vc (l:List Ar) (h:q73.pre l) :
    bif decide ((400:Int)<(l.length:Int)) then false=q0k Lx.q03 l else (∃ (p':Nat),(p'≤l.length∧(List.take p' l).all (okA Lx.q03)=true∧(List.map (λ(a:Ar)=>a.1)
    (List.take p' l)).Nodup)∧((0:Int)=(p':Int)∧l=l∧True)∧True∧True∧True∧True∧True∧True∧True∧True∧True)∧∀ (p:Nat),p≤l.length∧(List.take p l).all (okA
    Lx.q03)=true∧(List.map (λ(a:Ar)=>a.1) (List.take p l)).Nodup→bif decide ((p:Int)<(l.length:Int)) then ((0:Int)≤(p:Int)∧(p:Int)<(l.length:Int)) ∧
    (l.getD (p:Int).toNat ([],(0:Int),[])).1.length≤(1000000:Nat)∧bif !Lx.q03 (l.getD (p:Int).toNat ([],(0:Int),[])).1 then false=q0k Lx.q03 l else ((0:Int)≤(↑p
    : Int)∧(p:Int)<(l.length:Int))∧True∧bif !q1f (l.getD (p:Int).toNat ([],(0:Int),[])).2.1 then false=q0k Lx.q03 l else ((0:Int)≤(p:Int)∧(p:Int) <
    (l.length:Int))∧(l.getD (p:Int).toNat ([],(0:Int),[])).2.2.length≤(1000:Nat)∧bif !q05 (l.getD (p:Int).toNat ([],(0:Int),[])).2.2 then false=q0k Lx.q03 l
    else (∃ (p':Nat),(p'≤(p:Int).toNat∧((List.take p' l).any λ(a:Ar)=>a.1==(arA l (p:Int).toNat).1)=false)∧((0:Int)=(p':Int)∧l=l∧(p:Int)=(p:Int) ∧
    True)∧True∧True∧True∧True∧True∧True∧True∧True∧True)∧∀ (p_1:Nat),p_1≤(p:Int).toNat∧((List.take p_1 l).any λ(a:Ar)=>a.1==(arA l (p:Int).toNat).1) =
    false→bif decide ((p_1:Int)<(p:Int)) then ((0:Int)≤(p_1:Int)∧(p_1:Int)<(l.length:Int))∧((0:Int)≤(p:Int)∧(p:Int)<(l.length:Int))∧bif (l.getD
    (p_1:Int).toNat ([],(0:Int),[])).1==(l.getD (p:Int).toNat ([],(0:Int),[])).1 then false=q0k Lx.q03 l else ((-9223372036854775808:Int)≤(p_1:Int)+(1:Int) ∧
    (p_1:Int)+(1:Int)≤(9223372036854775807:Int))∧∃ (p':Nat),(p'≤(p:Int).toNat∧((List.take p' l).any λ(a:Ar)=>a.1==(arA l (p:Int).toNat).1)=false)∧(↑p :
    Int).toNat-p'<(p:Int).toNat-p_1∧((p_1:Int)+(1:Int)=(p':Int)∧l=l∧(p:Int)=(p:Int)∧True)∧True∧True∧True∧True∧True∧True∧True∧True∧True
    else ((-9223372036854775808:Int)≤(p:Int)+(1:Int)∧(p:Int)+(1:Int)≤(9223372036854775807:Int))∧∃ (p':Nat),(p'≤l.length∧(List.take p' l).all (okA Lx.q03) =
    true∧(List.map (λ(a:Ar)=>a.1) (List.take p' l)).Nodup)∧l.length-p'<l.length-p∧((p:Int)+(1:Int)=(p':Int)∧l=l∧True)∧True∧True∧True∧True∧True ∧
    True∧True∧True∧True else true=q0k Lx.q03 l
     := by
  have h:FewZ l:=h;have hl:l.length≤6:=h.1
  try simp only [and_true,true_and,eq_self,and_self]
  have hno:∀ k,k<l.length→okA Lx.q03 (l.getD k ar0)=false→false=q0k Lx.q03 l:=λk hk hf=>by
    unfold q0k;rw [qbk l ar0 _ k hk hf];rfl
  refine bifP (λhb=>absurd (of_decide_eq_true hb) (by omega)) λ_=>⟨⟨0,⟨Nat.zero_le _,rfl,List.nodup_nil⟩,rfl⟩,?_⟩
  rintro k ⟨hk,ha,hn⟩;refine bifP (λhb=>?_) λhb=>?_
  rotate_left
  · have:k=l.length:=by have:=of_decide_eq_false hb;omega
    subst this;rw [List.take_length] at ha hn;exact (q7v.2 ⟨List.all_eq_true.1 ha,hn,by omega⟩).symm
  have hkl:k<l.length:=by have:=of_decide_eq_true hb;omega
  have hm:=h.2 _ (q1l l ar0 k hkl);simp only [Int.toNat_natCast];refine ⟨by omega,Nat.le_trans hm.1 (by decide),bifP (λc1=>hno k hkl ?_) λc1=>⟨by omega,bifP (λc2=>hno k hkl ?_) λc2=>⟨by omega,Nat.le_trans hm.2 (by decide),bifP (λc3=>hno k hkl ?_) λc3=>⟨⟨0,⟨Nat.zero_le _,rfl⟩,rfl⟩,?_⟩⟩⟩⟩
  · unfold okA;rw [cast (Bool.not_eq_true' _) c1];rfl
  · unfold okA;rw [cast (Bool.not_eq_true' _) c2,Bool.false_and,Bool.and_false]
  · unfold okA;rw [cast (Bool.not_eq_true' _) c3,Bool.and_false,Bool.and_false]
  rintro j ⟨hj,hja⟩;have hok:okA Lx.q03 (l.getD k ar0)=true:=by unfold okA;rw [cast (Bool.not_eq_false' _) c1,cast (Bool.not_eq_false' _) c2,cast (Bool.not_eq_false' _) c3];rfl
  refine bifP (λhb2=>?_) λhb2=>?_
  rotate_left
  · have:j=k:=by have:=of_decide_eq_false hb2;omega
    subst this;refine ⟨by omega,j+1,⟨by omega,by rw [q8v l ar0 _ j hkl,ha,hok];rfl,?_⟩,by omega,by omega⟩
    rw [q2d l ar0 j hkl,List.map_append,List.nodup_append];refine ⟨hn,List.nodup_cons.2 ⟨by simp,List.nodup_nil⟩,λx hx y hy e=>?_⟩
    obtain rfl:=List.mem_singleton.1 hy;obtain ⟨a,ha',e'⟩:=List.mem_map.1 hx;exact List.any_eq_false.1 hja a ha' (by rw [beq_iff_eq];exact e'.trans e)
  have hjk:j<k:=by have:=of_decide_eq_true hb2;omega
  try simp only [Int.toNat_natCast]
  refine ⟨by omega,by omega,bifP (λc4=>?_) λc4=>⟨by omega,j+1,⟨by omega,?_⟩,by omega,by omega⟩⟩
  · symm
    rw [← Bool.not_eq_true];intro hv;obtain ⟨_,h2,_⟩:=q7v.1 hv;rw [List.nodup_iff_pairwise_ne,List.pairwise_iff_getElem] at h2;have:=h2 j k (by rw [List.length_map];omega) (by rw [List.length_map];omega) hjk
    rw [List.getElem_map,List.getElem_map] at this;rw [beq_iff_eq,List.getD_eq_getElem?_getD,List.getElem?_eq_getElem (show j<l.length by omega),List.getD_eq_getElem?_getD,List.getElem?_eq_getElem hkl] at c4
    exact this c4
  · rw [qbp l ar0 _ j (by omega),hja];exact c4
abbrev q7p (l:List Str) (p:Nat):Prop :=
 (0≤(p:Int)∧(p:Int)<(l.length:Int))
abbrev qdc (l:List Str) (p:Nat) (p':Nat) (s:Str):Prop :=
 (True∧putD s (List.take p l)=putD s (List.take p' l)∧(p:Int)+1=(p':Int)∧l=l∧s=s∧True)
set_option maxRecDepth 100000 in
theorem rzPut_vc (l:List Str) (s:Str) (h:cRzPut.pre (l,s)) :
  (∃ (p':Nat),p'≤l.length∧(True∧false=putD s (List.take p' l)∧(0:Int)=(p':Int)∧l=l∧s=s∧True)∧True∧(q11 s false (List.take p' l)=[]∧True)∧True∧True∧True∧True∧True∧True∧True)∧∀ (p:Nat),p≤l.length→bif decide ((p:Int)<(l.length:Int)) then bif !putD s (List.take p l) then (q7p l p)∧bif !Op.bytesLess (l.getD (p:Int).toNat []) s then ((q11 s false (List.take p l)).length+[s].length)*(16:Nat)≤(140737488355328:Nat)∧(q7p l p)∧bif !l.getD (p:Int).toNat []==s then (q7p l p)∧((q11 s false (List.take p l)++[s]).length+[l.getD (p:Int).toNat []].length)*(16:Nat)≤(140737488355328:Nat)∧(zFit ((p:Int)+1))∧∃ (p':Nat),p'≤l.length∧l.length-p'<l.length-p∧(True∧true=putD s (List.take p' l)∧(p:Int)+1=(p':Int)∧l=l∧s=s∧True)∧True∧(q11 s false (List.take p l)++[s]++[l.getD (p:Int).toNat []]=q11 s false (List.take p' l)∧True)∧True∧True∧True∧True∧True∧True∧True else (zFit ((p:Int)+1))∧∃ (p':Nat),p'≤l.length∧l.length-p'<l.length-p∧(True∧true=putD s (List.take p' l)∧(p:Int)+1=(p':Int)∧l=l∧s=s∧True)∧True∧(q11 s false (List.take p l)++[s]=q11 s false (List.take p' l)∧True)∧True∧True∧True∧True∧True∧True∧True else (q7p l p)∧bif !l.getD (p:Int).toNat []==s then (q7p l p)∧((q11 s false (List.take p l)).length+[l.getD (p:Int).toNat []].length)*(16:Nat)≤(140737488355328:Nat)∧(zFit ((p:Int)+1))∧∃ (p':Nat),p'≤l.length∧l.length-p'<l.length-p∧(qdc l p p' s)∧True∧(q11 s false (List.take p l)++[l.getD (p:Int).toNat []]=q11 s false (List.take p' l)∧True)∧True∧True∧True∧True∧True∧True∧True else (zFit ((p:Int)+1))∧∃ (p':Nat),p'≤l.length∧l.length-p'<l.length-p∧(qdc l p p' s)∧True∧(q11 s false (List.take p l)=q11 s false (List.take p' l)∧True)∧True∧True∧True∧True∧True∧True∧True else (q7p l p)∧bif !l.getD (p:Int).toNat []==s then (q7p l p)∧((q11 s false (List.take p l)).length+[l.getD (p:Int).toNat []].length)*(16:Nat)≤(140737488355328:Nat)∧(zFit ((p:Int)+1))∧∃ (p':Nat),p'≤l.length∧l.length-p'<l.length-p∧(qdc l p p' s)∧True∧(q11 s false (List.take p l)++[l.getD (p:Int).toNat []]=q11 s false (List.take p' l)∧True)∧True∧True∧True∧True∧True∧True∧True else (zFit ((p:Int)+1))∧∃ (p':Nat),p'≤l.length∧l.length-p'<l.length-p∧(qdc l p p' s)∧True∧(q11 s false (List.take p l)=q11 s false (List.take p' l)∧True)∧True∧True∧True∧True∧True∧True∧True else bif !putD s (List.take p l) then ((q11 s false (List.take p l)).length+[s].length)*(16:Nat)≤(140737488355328:Nat)∧q11 s false (List.take p l)++[s]=putL (l,s) else q11 s false (List.take p l)=putL (l,s):=by
 delta q7p qdc zFit
 have hl:l.length≤1000000:=h
 try simp only [and_true,true_and,eq_self,and_self]
 refine ⟨⟨0,Nat.zero_le _,⟨rfl,rfl⟩,rfl⟩,λk hk=>bifP (λhb=>?_) λhb=>?_⟩
 rotate_left
 ·have:k=l.length:=by have:=of_decide_eq_false hb;omega
  subst this;rw [List.take_length];have:=qe1 s l false;unfold putL;dsimp only;refine bifP (λc=>⟨by rw [List.length_singleton];omega,?_⟩) λc=>?_
  ·rw [cast (Bool.not_eq_true' _) c];rfl
  ·rw [cast (Bool.not_eq_false' _) c,if_pos rfl,List.append_nil]
 have hkl:k<l.length:=by have:=of_decide_eq_true hb;omega
 simp only [Int.toNat_natCast];have e1:=putRun_take s l hkl;have e2:=putD_take s l hkl;have h1:=qe1 s (l.take k) false;have h2:=List.length_take_le' k l;unfold q3s at e1;have fin:∀ (d:Bool) (m:List Str),q11 s false (l.take (k+1))=m→putD s (l.take (k+1))=d→((-9223372036854775808:Int)≤(k:Int)+1∧(k:Int)+1≤9223372036854775807)∧∃ p':Nat,p'≤l.length∧l.length-p'<l.length-k∧(d=putD s (l.take p')∧(k:Int)+1=(p':Int))∧m=q11 s false (l.take p'):=λd m h1 h2 =>
  ⟨by omega,k+1,by omega,by omega,⟨h2.symm,by omega⟩,h1.symm⟩
 refine bifP (λc1=>⟨by omega,bifP (λc2=>⟨?_,by omega,bifP (λc3=>⟨by omega,?_,fin _ _ ?_ ?_⟩) λc3=>fin _ _ ?_ ?_⟩) λc2=>⟨by omega,bifP (λc3=>⟨by omega,?_,fin _ _ ?_ ?_⟩) λc3=>fin _ _ ?_ ?_⟩⟩) λc1=>⟨by omega,bifP (λc3=>⟨by omega,?_,fin _ _ ?_ ?_⟩) λc3=>fin _ _ ?_ ?_⟩
 all_goals first
  | (simp only [List.length_append,List.length_singleton];omega)
  | (rw [e2];simp only [Bool.not_eq_true',Bool.not_eq_false'] at c1;simp only [Bool.not_eq_true',Bool.not_eq_false'] at c2;rw [c1,c2];rfl)
  | (rw [e2];simp only [Bool.not_eq_false'] at c1;rw [c1];rfl)
  | (rw [e1];simp only [Bool.not_eq_true',Bool.not_eq_false'] at c1;simp only [Bool.not_eq_true',Bool.not_eq_false'] at c2;simp only [Bool.not_eq_true',Bool.not_eq_false'] at c3;rw [c1,c2,c3];simp)
  | (rw [e1];simp only [Bool.not_eq_false'] at c1;simp only [Bool.not_eq_true',Bool.not_eq_false'] at c3;rw [c1,c3];simp)
set_option maxRecDepth 100000 in
theorem rzAt_vc (l:List Ar) (n x y m:Int) (h:cRzAt.pre (l,n,(x,y),m)) :
    (∃ (p':Nat),p'≤l.length∧([]=atL (List.take p' l) n (x,y) m∧(0:Int)=(p':Int)∧l=l∧n=n∧m=m∧True∧True)∧((x=x∧y=y∧True)∧True)∧True∧True∧True ∧
    True∧True∧True∧True∧True)∧∀ (p:Nat),p≤l.length→bif decide ((p:Int)<(l.length:Int)) then ((0:Int)≤(p:Int)∧(p:Int)<(l.length:Int))∧bif (l.getD (↑p :
    Int).toNat ([],(0:Int),[])).2.1==n then ((0:Int)≤(p:Int)∧(p:Int)<(l.length:Int))∧(l.getD (p:Int).toNat ([],(0:Int),[])).2.2.length≤(1000:Nat)∧bif decide
    (m≤q1i (l.getD (p:Int).toNat ([],(0:Int),[])).2.2 (x,y)) then ((0:Int)≤(p:Int)∧(p:Int)<(l.length:Int))∧(atL (List.take p l) n (x,y) m).length≤(1000000 :
    Nat)∧((-9223372036854775808:Int)≤(p:Int)+(1:Int)∧(p:Int)+(1:Int)≤(9223372036854775807:Int))∧∃ (p':Nat),p'≤l.length∧l.length-p'<l.length-p∧(putL
    (atL (List.take p l) n (x,y) m,(l.getD (p:Int).toNat ([],(0:Int),[])).1)=atL (List.take p' l) n (x,y) m∧(p:Int)+(1:Int)=(p':Int)∧l=l∧n=n∧m=m∧True ∧
    True)∧((x=x∧y=y∧True)∧True)∧True∧True∧True∧True∧True∧True∧True∧True else ((-9223372036854775808:Int)≤(p:Int)+(1:Int)∧(p:Int)+(1:Int) ≤
    (9223372036854775807:Int))∧∃ (p':Nat),p'≤l.length∧l.length-p'<l.length-p∧(atL (List.take p l) n (x,y) m=atL (List.take p' l) n (x,y) m∧(p:Int)+(1:Int)=(↑p'
    : Int)∧l=l∧n=n∧m=m∧True∧True)∧((x=x∧y=y∧True)∧True)∧True∧True∧True∧True∧True∧True∧True∧True else ((-9223372036854775808:Int)≤(p:Int)+(1 :
    Int)∧(p:Int)+(1:Int)≤(9223372036854775807:Int))∧∃ (p':Nat),p'≤l.length∧l.length-p'<l.length-p∧(atL (List.take p l) n (x,y) m=atL (List.take p' l) n (x,y) m
    ∧ (p:Int)+(1:Int)=(p':Int)∧l=l∧n=n∧m=m∧True∧True)∧((x=x∧y=y∧True)∧True)∧True∧True∧True∧True∧True∧True∧True∧True else atL (List.take p
    l) n (x,y) m=atL l n (x,y) m
     := by
  have h:FewZ l:=h;have hl:l.length≤6:=h.1
  try simp only [and_true,eq_self,and_self]
  refine ⟨⟨0,Nat.zero_le _,rfl,rfl⟩,λk hk=>bifP (λhb=>?_) λhb=>?_⟩
  rotate_left
  · have:k=l.length:=by have:=of_decide_eq_false hb;omega
    subst this;rw [List.take_length]
  have hkl:k<l.length:=by have:=of_decide_eq_true hb;omega
  have hm:=h.2 _ (q1l l ar0 k hkl);simp only [Int.toNat_natCast];have e1:=atL_snoc (l.take k) (l.getD k ar0) n (x,y) m;rw [← q2d l ar0 k hkl] at e1;unfold hitG at e1;have hlen:=atL_len (l.take k) n (x,y) m;have hlt:=List.length_take_le' k l;have fin:∀ (q:List Str),atL (l.take (k+1)) n (x,y) m=q→((-9223372036854775808:Int)≤(k:Int)+1∧(k:Int)+1≤9223372036854775807)∧∃ p':Nat,p'≤l.length∧l.length-p'<l.length-k∧q=atL (l.take p') n (x,y) m∧(k:Int)+1=(p':Int):=λq h1 =>
    ⟨by omega,k+1,by omega,by omega,h1.symm,by omega⟩
  refine ⟨by omega,bifP (λc1=>⟨by omega,Nat.le_trans hm.2 (by decide),bifP (λc2=>⟨by omega,by omega,fin _ ?_⟩) λc2=>fin _ ?_⟩) λc1=>fin _ ?_⟩
  · rw [e1,show ((l.getD k ar0).2.1==n)=true from c1,show decide (m≤q1i (l.getD k ar0).2.2 (x,y))=true from c2];rfl
  · rw [e1,show ((l.getD k ar0).2.1==n)=true from c1,show decide (m≤q1i (l.getD k ar0).2.2 (x,y))=false from c2];rfl
  · rw [e1,show ((l.getD k ar0).2.1==n)=false from c1];rfl
set_option maxRecDepth 100000 in
theorem rzAll_vc (l:List Ar) (n x y:Int) (h:cRzAll.pre (l,n,x,y)) :
    FewZ l∧bif !q0k Lx.q03 l then ([],(1:Int))=allZ Lx.q03 l n (x,y) else True∧bif !q1f n then ([],(1:Int))=allZ Lx.q03 l n (x,y) else True∧bif !onB (x,y) then ([],
    (1:Int))=allZ Lx.q03 l n (x,y) else FewZ l∧(atL l n (x,y) (0:Int),(0:Int))=allZ Lx.q03 l n (x,y)
     := by
  have h:FewZ l:=h
  try simp only [true_and]
  unfold allZ q1j;refine ⟨h,bifP (λc1=>?_) λc1=>bifP (λc2=>?_) λc2=>bifP (λc3=>?_) λc3=>⟨h,?_⟩⟩
  · rw [cast (Bool.not_eq_true' _) c1];rfl
  · rw [cast (Bool.not_eq_true' _) c2,Bool.false_and,Bool.and_false];rfl
  · rw [cast (Bool.not_eq_true' _) c3,Bool.and_false,Bool.and_false];rfl
  · have hv:=cast (Bool.not_eq_false' _) c1
    rw [hv,cast (Bool.not_eq_false' _) c2,cast (Bool.not_eq_false' _) c3,atL_ids hv];rfl
set_option maxRecDepth 100000 in
theorem rzOne_vc (l:List Ar) (n x y:Int) (h:cRzOne.pre (l,n,x,y)) :
    FewZ l∧bif (allZ Lx.q03 l n (x,y)).2 != (0:Int) then ([],(allZ Lx.q03 l n (x,y)).2)=oneZ Lx.q03 l n (x,y) else bif (↑(allZ Lx.q03 l n (x,y)).1.length:Int)==(0:Int)
    then ([],(10:Int))=oneZ Lx.q03 l n (x,y) else bif decide ((1:Int)<(↑(allZ Lx.q03 l n (x,y)).1.length:Int)) then FewZ l∧bif decide ((0:Int)<(↑(atL l n (x,y) (1 :
    Int)).length:Int)) then ([],(8:Int))=oneZ Lx.q03 l n (x,y) else ((0:Int)≤(0:Int)∧(0:Int)<(↑(allZ Lx.q03 l n (x,y)).1.length:Int))∧((allZ Lx.q03 l n (x,
    y)).1.getD (Int.toNat (0:Int)) [],(0:Int))=oneZ Lx.q03 l n (x,y) else ((0:Int)≤(0:Int)∧(0:Int)<(↑(allZ Lx.q03 l n (x,y)).1.length:Int))∧((allZ Lx.q03 l n (x,
    y)).1.getD (Int.toNat (0:Int)) [],(0:Int))=oneZ Lx.q03 l n (x,y)
     := by
  have h:FewZ l:=h
  try simp only [and_true,true_and,eq_self,and_self]
  rw [atL_in];unfold oneZ allZ;have hin:(q1j Lx.q03 l n (x,y)).2.2=0→(q1j Lx.q03 l n (x,y)).2.1=inZ l n (x,y):=by
    unfold q1j;split
    · intro _;rfl
    · intro h;cases h
  generalize q1j Lx.q03 l n (x,y)=q at hin ⊢;obtain ⟨ids,b,e⟩:=q;dsimp only at hin ⊢;refine ⟨h,bifP (λc1=>?_) λc1=>bifP (λc2=>?_) λc2=>bifP (λc3=>⟨h,bifP (λc4=>?_) λc4=>⟨⟨by omega,?_⟩,?_⟩⟩) λc3=>⟨⟨by omega,?_⟩,?_⟩⟩
  · rw [if_pos c1]
  all_goals have c1':¬ (e != 0)=true:=by rw [c1];decide
  all_goals have he:e=0:=by simpa using c1
  all_goals try rw [if_neg c1']
  all_goals have hb:=hin he
  · cases ids with
    | nil=>rfl
    | cons i r=>simp at c2;omega
  · cases ids with
    | nil=>simp at c2
    | cons i r=>cases r with
      | nil=>simp at c3
      | cons j r=>dsimp only;rw [hb,c4];rfl
  · cases ids with
    | nil=>simp at c2
    | cons i r=>simp only [List.length_cons];omega
  · cases ids with
    | nil=>simp at c2
    | cons i r=>dsimp only;rw [hb,c4,Bool.and_false];subst he;rfl
  · cases ids with
    | nil=>simp at c2
    | cons i r=>simp only [List.length_cons];omega
  · cases ids with
    | nil=>simp at c2
    | cons i r=>cases r with
      | nil=>subst he;rfl
      | cons j r=>simp only [List.length_cons,decide_eq_false_iff_not] at c3;omega
set_option maxRecDepth 100000 in
theorem rzApart_vc (l:List Ar) (n:Int) (h:qei.pre (l,n)) :
    FewZ l∧bif !q0k Lx.q03 l then false=q34 Lx.q03 l n else True∧bif !q1f n then false=q34 Lx.q03 l n else (∃ (p':Nat),(p'≤l.length∧∀ (i:Nat),i<p'→q49
    l n i i)∧((0:Int)=(p':Int)∧l=l∧n=n∧True)∧True∧True∧True∧True∧True∧True∧True∧True∧True)∧∀ (p:Nat),(p≤l.length∧∀ (i:Nat),i<p→q49 l n i
    i)→bif decide ((p:Int)<(l.length:Int)) then (∃ (p':Nat),(p'≤(p:Int).toNat∧q49 l n (p:Int).toNat p')∧((0:Int)=(p':Int)∧l=l∧n=n∧(p:Int)=(↑p :
    Int)∧True)∧True∧True∧True∧True∧True∧True∧True∧True∧True)∧∀ (p_1:Nat),p_1≤(p:Int).toNat∧q49 l n (p:Int).toNat p_1→bif decide ((p_1:Int)<(↑p :
    Int)) then ((0:Int)≤(p:Int)∧(p:Int)<(l.length:Int))∧bif (l.getD (p:Int).toNat ([],(0:Int),[])).2.1==n then ((0:Int)≤(p_1:Int)∧(p_1:Int)<(↑l.length :
    Int))∧bif (l.getD (p_1:Int).toNat ([],(0:Int),[])).2.1==n then ((0:Int)≤(p:Int)∧(p:Int)<(l.length:Int))∧((0:Int)≤(p_1:Int)∧(p_1:Int)<(↑l.length :
    Int))∧((l.getD (p:Int).toNat ([],(0:Int),[])).2.2.length≤(12:Nat)∧(l.getD (p_1:Int).toNat ([],(0:Int),[])).2.2.length≤(12:Nat))∧bif !q1k (l.getD (↑p :
    Int).toNat ([],(0:Int),[])).2.2 (l.getD (p_1:Int).toNat ([],(0:Int),[])).2.2 then false=q34 Lx.q03 l n else ((-9223372036854775808:Int)≤(p_1:Int)+(1:Int)∧(↑p_1
    : Int)+(1:Int)≤(9223372036854775807:Int))∧∃ (p':Nat),(p'≤(p:Int).toNat∧q49 l n (p:Int).toNat p')∧(p:Int).toNat-p'<(p:Int).toNat-p_1∧((p_1:Int) +
    (1:Int)=(p':Int)∧l=l∧n=n∧(p:Int)=(p:Int)∧True)∧True∧True∧True∧True∧True∧True∧True∧True∧True else ((-9223372036854775808:Int)≤(p_1:Int) +
    (1:Int)∧(p_1:Int)+(1:Int)≤(9223372036854775807:Int))∧∃ (p':Nat),(p'≤(p:Int).toNat∧q49 l n (p:Int).toNat p')∧(p:Int).toNat-p'<(p:Int).toNat-p_1
    ∧ ((p_1:Int)+(1:Int)=(p':Int)∧l=l∧n=n∧(p:Int)=(p:Int)∧True)∧True∧True∧True∧True∧True∧True∧True∧True∧True else ((-9223372036854775808:Int)
    ≤ (p_1:Int)+(1:Int)∧(p_1:Int)+(1:Int)≤(9223372036854775807:Int))∧∃ (p':Nat),(p'≤(p:Int).toNat∧q49 l n (p:Int).toNat p')∧(p:Int).toNat-p'<(↑p :
    Int).toNat-p_1∧((p_1:Int)+(1:Int)=(p':Int)∧l=l∧n=n∧(p:Int)=(p:Int)∧True)∧True∧True∧True∧True∧True∧True∧True∧True∧True else
    ((-9223372036854775808:Int)≤(p:Int)+(1:Int)∧(p:Int)+(1:Int)≤(9223372036854775807:Int))∧∃ (p':Nat),(p'≤l.length∧∀ (i:Nat),i<p'→q49 l n i i) ∧
    l.length-p'<l.length-p∧((p:Int)+(1:Int)=(p':Int)∧l=l∧n=n∧True)∧True∧True∧True∧True∧True∧True∧True∧True∧True else true=q34 Lx.q03 l n
     := by
  have h:FewZ l:=h;have hl:l.length≤6:=h.1
  try simp only [and_true,true_and,eq_self,and_self]
  refine ⟨h,bifP (λc1=>?_) λc1=>bifP (λc2=>?_) λc2=>⟨⟨0,⟨Nat.zero_le _,λi hi=>absurd hi (Nat.not_lt_zero _)⟩,rfl⟩,?_⟩⟩
  · unfold q34;rw [cast (Bool.not_eq_true' _) c1];rfl
  · unfold q34;rw [cast (Bool.not_eq_true' _) c2,Bool.false_and,Bool.and_false]
  have hv:=cast (Bool.not_eq_false' _) c1;have hk:=cast (Bool.not_eq_false' _) c2;rintro k ⟨hkl,hp⟩;refine bifP (λhb=>?_) λhb=>?_
  rotate_left
  · have:k=l.length:=by have:=of_decide_eq_false hb;omega
    subst this;exact (apart_pairs hv hk hp).symm
  have hkl:k<l.length:=by have:=of_decide_eq_true hb;omega
  simp only [Int.toNat_natCast];refine ⟨⟨0,⟨Nat.zero_le _,λi hi=>absurd hi (Nat.not_lt_zero _)⟩,rfl⟩,?_⟩
  rintro j ⟨hj,hpj⟩;refine bifP (λhb2=>?_) λhb2=>?_
  rotate_left
  · have:j=k:=by have:=of_decide_eq_false hb2;omega
    subst this;refine ⟨by omega,j+1,⟨by omega,λi hi=>?_⟩,by omega,by omega⟩
    rcases Nat.lt_or_ge i j with h' | h'
    · exact hp i h'
    · obtain rfl:i=j:=by omega
      exact hpj
  have hjk:j<k:=by have:=of_decide_eq_true hb2;omega
  have hm:=h.2 _ (q1l l ar0 k hkl);have hm':=h.2 _ (q1l l ar0 j (by omega))
  try simp only [Int.toNat_natCast]
  have fin:((l.getD k ar0).2.1=n→(l.getD j ar0).2.1=n→q1k (l.getD k ar0).2.2 (l.getD j ar0).2.2=true)→((-9223372036854775808:Int)≤(j:Int)+1∧(j:Int)+1≤9223372036854775807)∧∃ p':Nat,(p'≤k∧q49 l n k p')∧k-p'<k-j∧(j:Int)+1=(p':Int):=λhh =>
    ⟨by omega,j+1,⟨by omega,λi hi h1 h2=>by
      rcases Nat.lt_or_ge i j with h' | h'
      · exact hpj i h' h1 h2
      · obtain rfl:i=j:=by omega
        exact hh h1 h2⟩,by omega,by omega⟩
  refine ⟨by omega,bifP (λc3=>⟨by omega,bifP (λc4=>⟨by omega,by omega,⟨hm.2,hm'.2⟩,bifP (λc5=>?_) λc5=>fin λ_ _=>cast (Bool.not_eq_false' _) c5⟩) λc4=>fin λ_ e=>?_⟩) λc3=>fin λe _=>?_⟩
  · exact (apart_not hv hkl hjk (eq_of_beq c3) (eq_of_beq c4) (cast (Bool.not_eq_true' _) c5)).symm
  · rw [show ((l.getD j ar0).2.1==n)=true from by rw [e,beq_self_eq_true]] at c4;cases c4
  · rw [show ((l.getD k ar0).2.1==n)=true from by rw [e,beq_self_eq_true]] at c3;cases c3
set_option maxRecDepth 100000 in
theorem rzNested_vc (l:List Ar) (n i:Int) (h:qcf.pre (l,n,i)) :
    FewZ l∧bif !q0k Lx.q03 l then false=q2e Lx.q03 l n i else True∧bif !q1f n then false=q2e Lx.q03 l n i else True∧bif !q1f i then false=q2e Lx.q03 l n i
    else (∃ (p':Nat),(p'≤l.length∧((ofK (List.take p' l) n).all λ(a:Ar)=>(ofK l i).any λ(b:Ar)=>q0i a.2.2 b.2.2)=true)∧((0:Int)=(p':Int)∧l=l∧n=n∧i =
    i∧True)∧True∧True∧True∧True∧True∧True∧True∧True∧True)∧∀ (p:Nat),p≤l.length∧((ofK (List.take p l) n).all λ(a:Ar)=>(ofK l i).any λ(b:Ar)=>q0i
    a.2.2 b.2.2)=true→bif decide ((p:Int)<(l.length:Int)) then ((0:Int)≤(p:Int)∧(p:Int)<(l.length:Int))∧(∃ (p':Nat),p'≤l.length∧(((l.getD (p:Int).toNat
    ([],(0:Int),[])).2.1 != n)=(!(arA l (p:Int).toNat).2.1==n||q5q l i (p:Int).toNat p')∧(0:Int)=(p':Int)∧l=l∧n=n∧i=i∧(p:Int)=(p:Int)∧True) ∧
    True∧True∧True∧True∧True∧True∧True∧True∧True)∧∀ (p_1:Nat),p_1≤l.length→bif decide ((p_1:Int)<(l.length:Int)) then bif !(arA l (p:Int).toNat).2.1==n ||
    q5q l i (p:Int).toNat p_1 then ((-9223372036854775808:Int)≤(p_1:Int)+(1:Int)∧(p_1:Int)+(1:Int)≤(9223372036854775807:Int))∧∃ (p':Nat),p'≤l.length ∧
    l.length-p'<l.length-p_1∧(true=(!(arA l (p:Int).toNat).2.1==n||q5q l i (p:Int).toNat p')∧(p_1:Int)+(1:Int)=(p':Int)∧l=l∧n=n∧i=i∧(p:Int) =
    (p:Int)∧True)∧True∧True∧True∧True∧True∧True∧True∧True∧True else ((0:Int)≤(p_1:Int)∧(p_1:Int)<(l.length:Int))∧bif (l.getD (p_1:Int).toNat ([],(0
    : Int),[])).2.1==i then ((0:Int)≤(p:Int)∧(p:Int)<(l.length:Int))∧((0:Int)≤(p_1:Int)∧(p_1:Int)<(l.length:Int))∧((l.getD (p:Int).toNat ([],(0 :
    Int),[])).2.2.length≤(12:Nat)∧(l.getD (p_1:Int).toNat ([],(0:Int),[])).2.2.length≤(12:Nat))∧((-9223372036854775808:Int)≤(p_1:Int)+(1:Int)∧(p_1:Int)+(1 :
    Int)≤(9223372036854775807:Int))∧∃ (p':Nat),p'≤l.length∧l.length-p'<l.length-p_1∧(q0i (l.getD (p:Int).toNat ([],(0:Int),[])).2.2 (l.getD (p_1:Int).toNat
    ([],(0:Int),[])).2.2=(!(arA l (p:Int).toNat).2.1==n||q5q l i (p:Int).toNat p')∧(p_1:Int)+(1:Int)=(p':Int)∧l=l∧n=n∧i=i∧(p:Int)=(p:Int) ∧
    True)∧True∧True∧True∧True∧True∧True∧True∧True∧True else ((-9223372036854775808:Int)≤(p_1:Int)+(1:Int)∧(p_1:Int)+(1:Int)≤(9223372036854775807:Int)) ∧
    ∃ (p':Nat),p'≤l.length∧l.length-p'<l.length-p_1∧(false=(!(arA l (p:Int).toNat).2.1==n||q5q l i (p:Int).toNat p')∧(p_1:Int)+(1:Int)=(p':Int)∧l=l
    ∧ n=n∧i=i∧(p:Int)=(p:Int)∧True)∧True∧True∧True∧True∧True∧True∧True∧True∧True else bif !(!(arA l (p:Int).toNat).2.1==n||q5q l i (p:Int).toNat
    p_1) then false=q2e Lx.q03 l n i else ((-9223372036854775808:Int)≤(p:Int)+(1:Int)∧(p:Int)+(1:Int)≤(9223372036854775807:Int))∧∃ (p':Nat),(p'≤l.length ∧
    ((ofK (List.take p' l) n).all λ(a:Ar)=>(ofK l i).any λ(b:Ar)=>q0i a.2.2 b.2.2)=true)∧l.length-p'<l.length-p∧((p:Int)+(1:Int)=(p':Int)∧l=l∧n =
    n∧i=i∧True)∧True∧True∧True∧True∧True∧True∧True∧True∧True else true=q2e Lx.q03 l n i
     := by
  have h:FewZ l:=h;have hl:l.length≤6:=h.1
  try simp only [and_true,true_and,eq_self,and_self]
  have hA:q2e Lx.q03 l n i=(q0k Lx.q03 l&&(q1f n&&(q1f i&&(ofK l n).all λa=>(ofK l i).any λb=>q0i a.2.2 b.2.2))):=rfl
  rw [hA];refine ⟨h,bifP (λc1=>?_) λc1=>bifP (λc2=>?_) λc2=>bifP (λc3=>?_) λc3=>?_⟩
  · rw [cast (Bool.not_eq_true' _) c1];rfl
  · rw [cast (Bool.not_eq_true' _) c2,Bool.false_and,Bool.and_false]
  · rw [cast (Bool.not_eq_true' _) c3,Bool.false_and,Bool.and_false,Bool.and_false]
  rw [cast (Bool.not_eq_false' _) c1,cast (Bool.not_eq_false' _) c2,cast (Bool.not_eq_false' _) c3];simp only [Bool.true_and];refine ⟨⟨0,⟨Nat.zero_le _,rfl⟩,rfl⟩,?_⟩;rintro k ⟨hkl,ha⟩;refine bifP (λhb=>?_) λhb=>?_
  rotate_left
  · have:k=l.length:=by have:=of_decide_eq_false hb;omega
    subst this;rw [List.take_length] at ha;exact ha.symm
  have hkl:k<l.length:=by have:=of_decide_eq_true hb;omega
  simp only [Int.toNat_natCast];have e1:=qhj l n (λa=>(ofK l i).any λb=>q0i a.2.2 b.2.2) hkl
  refine ⟨by omega,⟨0,Nat.zero_le _,by unfold q5q;simp [bne],rfl⟩,λj hj=>?_⟩
  have hend:q5q l i k l.length=(ofK l i).any λb=>q0i (l.getD k ar0).2.2 b.2.2:=by
    unfold q5q ofK;rw [List.take_length,List.any_filter]
  refine bifP (λhb2=>?_) λhb2=>?_
  rotate_left
  · have:j=l.length:=by have:=of_decide_eq_false hb2;omega
    subst this;rw [hend];refine bifP (λc4=>?_) λc4=>⟨by omega,k+1,⟨by omega,?_⟩,by omega,by omega⟩
    · simp only [Bool.not_eq_true',Bool.or_eq_false_iff,Bool.not_eq_false'] at c4
      symm
      rw [← Bool.not_eq_true,List.all_eq_true];intro hh;have:=hh _ (qdd hkl c4.1);rw [c4.2] at this;cases this
    · rw [e1,ha,Bool.true_and];exact cast (Bool.not_eq_false' _) c4
  have hjl:j<l.length:=by have:=of_decide_eq_true hb2;omega
  have hm:=h.2 _ (q1l l ar0 k hkl);have hm':=h.2 _ (q1l l ar0 j hjl)
  try simp only [Int.toNat_natCast]
  have e2:q5q l i k (j+1)=(q5q l i k j||((l.getD j ar0).2.1==i&&q0i (l.getD k ar0).2.2 (l.getD j ar0).2.2)):=qbp l ar0 _ j hjl;have fin:∀ b:Bool,(!((arA l k).2.1==n)||q5q l i k (j+1))=b→((-9223372036854775808:Int)≤(j:Int)+1∧(j:Int)+1≤9223372036854775807)∧∃ p':Nat,p'≤l.length∧l.length-p'<l.length-j∧b=(!((arA l k).2.1==n)||q5q l i k p')∧(j:Int)+1=(p':Int):=λb hh =>
    ⟨by omega,j+1,by omega,by omega,hh.symm,by omega⟩
  refine bifP (λc4=>fin _ ?_) λc4=>⟨by omega,bifP (λc5=>⟨by omega,by omega,⟨hm.2,hm'.2⟩,fin _ ?_⟩) λc5=>fin _ ?_⟩
  · rw [e2,← Bool.or_assoc,c4];rfl
  · rw [e2,← Bool.or_assoc,c4,show ((l.getD j ar0).2.1==i)=true from c5];rfl
  · rw [e2,← Bool.or_assoc,c4,show ((l.getD j ar0).2.1==i)=false from c5];rfl
def boxL (p:Int×Int×Int×Int):List P2:=[(p.1,p.2.1),(p.1+p.2.2.1,p.2.1),(p.1+p.2.2.1,p.2.1+p.2.2.2),(p.1,p.2.1+p.2.2.2)]
def cBox:Con:=.of 17 [q0n,q0n,q0n,q0n] [q1c] (λp=>(0≤p.1∧p.1≤100)∧(0≤p.2.1∧p.2.1≤100)∧(0≤p.2.2.1∧p.2.2.1≤100)∧(0≤p.2.2.2∧p.2.2.2≤100)) boxL
def q6s (l:List Ar) (n:Int):Bool:=l.all (λa=>decide (a.2.2.length≤12)&&decide (a.1.length≤100))&&decide ((l.length:Int)≤n)
def cFewR:Con:=.of 18 [q5g,q0n] [q0u] (λp=>p.2=6) (λp=>q6s p.1 p.2)
def anFew (l:List Ar):List (Nat×Ann) :=
 [annX 0 Nat (λst k=>st.hd { live:=[0,1],sav:=[],box:=[] } [(5,R.int .i64 k)] [] [] [] none) (λ_ k=>k≤6∧k≤l.length∧(l.take k).all (λa=>decide (a.2.2.length≤12)&&decide (a.1.length≤100))=true) (λ_ k=>l.length-k)]
def cFewZ:Con:=.of 5 [q5g] [q0u] (λ_=>True) (λl=>q6s l 6)
def cTexts:Con:=.of 12 [q9s,q9s] [q0u] (λp=>List.length p.1≤1000000) (λp=>(p.1:List Str)==p.2)
def anTexts (a b:List Str):List (Nat×Ann) :=
 [annX 0 Nat (λst k=>st.hd { live:=[0,1],sav:=[],box:=[] } [(5,R.int .i64 k)] [] [] [] none) (λ_ k=>k≤a.length∧a.take k=b.take k) (λ_ k=>a.length-k)]
def cHead:Con:=.of 4 [] [q0u] (λ_=>True) (λ_=>true)
def consHd:List Con:=[cBox,cOne.lent,cAll,cTexts,qax.lent,q8y.lent]
end Go.Proofs.YtednmlmllbkhhaaGreatDoor
namespace Go.Proofs.YtednmlmllbkhhaaGreatDoor
open Go.RowKit Go.ChangeShapes Go.WideShapes
namespace R
def fldK (T:TypeId→Option Kds) (P:Program):List Field→Nat→Option Kds
 | [],_=>none
 | [f],o=>match T f.type with
  | some fs=>bif f.offset.beq o&&(P.cellsOf f.type).beq fs.size then some fs else none
  | none=>none
 | f::g::r,o=>match T f.type,fldK T P (g::r) (o+P.cellsOf f.type) with
  | some fs,some gs=>bif f.offset.beq o&&(P.cellsOf f.type).beq fs.size then some (fs.app gs) else none
  | _,_=>none
def repK (fs:Kds):Nat→Option Kds
 | 0=>none
 | 1=>some fs
 | n+2=>match repK fs (n+1) with
  | some gs=>some (fs.app gs)
  | none=>none
def tyK (P:Program):Nat→TypeId→Option Kds
 | 0,_=>none
 | n+1,t=>match P.underlying t with
  | some (.int k)=>some (.one (.int k))
  | some .bool=>some (.one .bool)
  | some .string=>some (.one .str)
  | some (.slice e)=>match tyK P n e with
   | some fs=>bif (P.cellsOf e).beq fs.size then some (.one (.sl fs)) else none
   | none=>none
  | some (.struct F)=>match fldK (tyK P n) P F.toList 0 with
   | some fs=>bif (P.cellsOf t).beq fs.size then some fs else none
   | none=>none
  | some (.array len e)=>match tyK P n e with
   | some fs=>bif (P.cellsOf e).beq fs.size then (match repK fs len with
    | some gs=>bif (P.cellsOf t).beq gs.size then some gs else none
    | none=>none) else none
   | none=>none
  | _=>none
def ckT (P:Program) (t:TypeId):Option CK :=
 match P.underlying t with
 | some (.struct _)=>(tyK P 20 t).map .agg
 | some (.array _ _)=>none
 | _=>match tyK P 20 t with
  | some (.one k)=>some (.one k)
  | _=>none
def appPay:(fs:Kds)→{gs:Kds}→fs.Pay→gs.Pay→(fs.app gs).Pay
 | .one _,_,p,q=>(p,q)
 | .cons _ ks,_,p,q=>(p.1,appPay ks p.2 q)
theorem qjg:∀ (fs gs:Kds),(fs.app gs).size=fs.size+gs.size
 | .one k,gs=>by show gs.size+1=1+gs.size;omega
 | .cons k ks,gs=>by show (ks.app gs).size+1=ks.size+1+gs.size;rw [qjg];omega
theorem app_big:∀ (fs:Kds) {gs:Kds} (p:fs.Pay) (q:gs.Pay),fs.Big p→gs.Big q→(fs.app gs).Big (appPay fs p q)
 | .one k,gs,p,q,hp,hq=>⟨hp,hq⟩
 | .cons k ks,gs,p,q,hp,hq=>⟨hp.1,app_big ks p.2 q hp.2 hq⟩
section
variable {H:Type} {enc:TypeId×Value→H} {P:Program} {w:World} {base:Nat} {spare:Nat→Bool} {held:Bool}
theorem qg4:∀ (fs:Kds) {gs:Kds} (p:fs.Pay) (q:gs.Pay) (cs ds:List Value),q2k w fs p cs→q2k w gs q ds→q2k w (fs.app gs) (appPay fs p q) (cs++ds)
 | .one k,gs,p,q,cs,ds,hp,hq=>by
  obtain ⟨v,rfl,hv⟩:=hp;exact ⟨v,ds,rfl,hv,hq⟩
 | .cons k ks,gs,p,q,cs,ds,hp,hq=>by
  obtain ⟨v,r,rfl,hv,hr⟩:=hp;exact ⟨v,r++ds,rfl,hv,qg4 ks p.2 q r ds hr hq⟩
def Opens (enc:TypeId×Value→H) (P:Program) (w:World) (base:Nat) (spare:Nat→Bool) (held:Bool) (t:TypeId) (fs:Kds):Prop :=
 ∀ (fuel:Nat) (cs:List Value) (x:DataW H×List MemPlace),DataW.trod enc P w base spare held fuel t cs=some x→∃ p,q2k w fs p cs∧fs.Big p
theorem fld_opens {T:TypeId→Option Kds} (hT:∀ t fs,T t=some fs→Opens enc P w base spare held t fs):∀ (l:List Field) (o:Nat) (fs:Kds),fldK T P l o=some fs→∀ (n:Nat) (cs:List Value),cs.length=o+fs.size →
  (∀ (i:Nat) (f:Field),l[i]? = some f→∃ y,DataW.trod enc P w base spare held n f.type ((cs.drop f.offset).take (P.cellsOf f.type))=some y)→∃ p,q2k w fs p (cs.drop o)∧fs.Big p
 | [],o,fs,h,n,cs,hc,hx=>by cases h
 | [f],o,fs,h,n,cs,hc,hx=>by
  have h:(match T f.type with
   | some fs=>bif f.offset.beq o&&(P.cellsOf f.type).beq fs.size then some fs else none
   | none=>none)=some fs:=h
  split at h
  ·rename_i gs hg
   cases hb:(f.offset.beq o&&(P.cellsOf f.type).beq gs.size)
   ·rw [hb] at h;cases h
   ·rw [hb] at h
    injection h with h;subst h;rw [Bool.and_eq_true] at hb;have h1:=Nat.eq_of_beq_eq_true hb.1;have h2:=Nat.eq_of_beq_eq_true hb.2;obtain ⟨y,hy⟩:=hx 0 f rfl;rw [h1,h2,List.take_of_length_le (by rw [List.length_drop];omega)] at hy
    exact hT _ _ hg n _ y hy
  ·cases h
 | f::g::r,o,fs,h,n,cs,hc,hx=>by
  have h:(match T f.type,fldK T P (g::r) (o+P.cellsOf f.type) with
   | some fs,some gs=>bif f.offset.beq o&&(P.cellsOf f.type).beq fs.size then some (fs.app gs) else none
   | _,_=>none)=some fs:=h
  split at h
  ·rename_i k1 k2 hg hr
   cases hb:(f.offset.beq o&&(P.cellsOf f.type).beq k1.size)
   ·rw [hb] at h;cases h
   ·rw [hb] at h
    injection h with h;subst h;rw [Bool.and_eq_true] at hb;have h1:=Nat.eq_of_beq_eq_true hb.1;have h2:=Nat.eq_of_beq_eq_true hb.2;rw [qjg] at hc;obtain ⟨y,hy⟩:=hx 0 f rfl;rw [h1,h2] at hy;obtain ⟨p,hp,hbp⟩:=hT _ _ hg n _ y hy;obtain ⟨q,hq,hbq⟩:=fld_opens hT (g::r) _ k2 hr n cs (by omega) λi f' hi=>hx (i+1) f' hi
    refine ⟨appPay k1 p q,?_,app_big k1 p q hbp hbq⟩;have:=qg4 k1 p q _ _ hp hq;rw [h2,← List.drop_drop,List.take_append_drop] at this;exact this
  ·cases h
theorem rep_opens {e:TypeId} {fs:Kds} (hT:Opens enc P w base spare held e fs) (hce:P.cellsOf e=fs.size):∀ (len:Nat) (gs:Kds),repK fs len=some gs→∀ (n i0:Nat) (cs:List Value),cs.length=i0*fs.size+gs.size →
  (∀ (i:Nat),i<len→∃ y,DataW.trod enc P w base spare held n e ((cs.drop ((i0+i)*P.cellsOf e)).take (P.cellsOf e))=some y)→∃ p,q2k w gs p (cs.drop (i0*fs.size))∧gs.Big p
 | 0,gs,h,n,i0,cs,hc,hx=>by cases h
 | 1,gs,h,n,i0,cs,hc,hx=>by
  have h:some fs=some gs:=h;injection h with h;subst h;obtain ⟨y,hy⟩:=hx 0 Nat.one_pos;rw [hce,Nat.add_zero,List.take_of_length_le (by rw [List.length_drop];omega)] at hy
  exact hT n _ y hy
 | len+2,gs,h,n,i0,cs,hc,hx=>by
  have h:(match repK fs (len+1) with
   | some gs=>some (fs.app gs)
   | none=>none)=some gs:=h
  split at h
  ·rename_i k2 hr
   injection h with h;subst h;rw [qjg] at hc;obtain ⟨y,hy⟩:=hx 0 (by omega)
   rw [hce,Nat.add_zero] at hy;obtain ⟨p,hp,hbp⟩:=hT n _ y hy;obtain ⟨q,hq,hbq⟩:=rep_opens hT hce (len+1) k2 hr n (i0+1) cs (by rw [Nat.succ_mul];omega) λi hi=>by
    have:=hx (i+1) (by omega)
    rwa [show i0+1+i=i0+(i+1) by omega]
   refine ⟨appPay fs p q,?_,app_big fs p q hbp hbq⟩;have:=qg4 fs p q _ _ hp hq;rw [Nat.succ_mul,← List.drop_drop,List.take_append_drop] at this;exact this
  ·cases h
theorem qbj:∀ (n:Nat) (t:TypeId) (fs:Kds),tyK P n t=some fs→Opens enc P w base spare held t fs
 | 0,t,fs,h=>by cases h
 | n+1,t,fs,h=>by
  intro fuel cs x hx;unfold tyK at h;split at h
  ·rename_i k hu
   injection h with h;subst h;obtain ⟨m,h1,h2,h3⟩:=DataW.trod_int hu hx;exact ⟨m,⟨_,h1,rfl⟩,by first | exact h3 | exact h3.1 | exact h3.2⟩
  ·rename_i hu
   injection h with h;subst h;obtain ⟨b,h1,_⟩:=DataW.trod_bool hu hx;exact ⟨b,⟨_,h1,rfl⟩,trivial⟩
  ·rename_i hu
   injection h with h;subst h;obtain ⟨s,h1,_,h3⟩:=DataW.trod_string hu hx;exact ⟨s.data.toList,⟨_,h1,rfl⟩,h3⟩
  ·rename_i e hu
   split at h
   ·rename_i gs hg
    cases hb:(P.cellsOf e).beq gs.size
    ·rw [hb] at h;cases h
    ·rw [hb] at h
     injection h with h;subst h;have hce:=Nat.eq_of_beq_eq_true hb;have hO:=qbj n e gs hg;rcases Go.Deep.open_slice hu hx with ⟨rfl,_⟩ | ⟨a,len,cap,m,k,D,Pl,rfl,hbb,hlc,hm,hmm,_,hxx⟩
     ·exact ⟨([]:List gs.Pay),⟨_,rfl,none,0,rfl,Nat.le_refl _,λh=>absurd h (Nat.lt_irrefl _)⟩,Nat.zero_le _,λx h=>by cases h⟩
     ·have hlm:len≤m:=by rw [hmm];split <;> omega
      have each:∀ i,i<len→∃ p:gs.Pay,∀ g o,a=⟨g,o,none⟩→gs.Rep w (Here w) p g (o+i*gs.size)∧gs.Big p:=λi hi=>by
       obtain ⟨cs',h1,h2⟩:=hxx i (by omega)
       obtain ⟨p,hp,hbig⟩:=hO k cs' _ h2;refine ⟨p,λg o ha=>⟨q2k.row gs p cs' g _ hp λj hj=>?_,hbig⟩⟩
       subst ha;obtain ⟨_,hl,hc⟩:=World.cells?_some h1;have:=hc j (by omega)
       rw [add_pl',add_pl',hce] at this;exact this
      obtain ⟨f,hf⟩:∃ f:Nat→gs.Pay,∀ i,i<len→∀ g o,a=⟨g,o,none⟩→gs.Rep w (Here w) (f i) g (o+i*gs.size)∧gs.Big (f i):=by
       haveI:Inhabited gs.Pay:=⟨gs.dflt⟩
       exact Go.Deep.choose_lt each
      have hlen:((List.range len).map f).length=len:=by simp
      have hpl:0<len→∃ g o,a=⟨g,o,none⟩∧g<w.heap.size:=λhpos=>by
       obtain ⟨cs',h1,_⟩:=hxx 0 (by omega)
       obtain ⟨_,hl,hc⟩:=World.cells?_some h1;have:=hc 0 (by rw [hce];exact gs.q76)
       rw [Nat.zero_mul] at this;have hlt:0<cs'.length:=by rw [hl,hce];exact gs.q76
       rw [List.getElem?_eq_getElem hlt] at this;have ha:a.add 0=a:=by unfold Addr.add;simp
       rw [ha] at this;exact cell_plain' this
      refine ⟨((List.range len).map f:List gs.Pay),⟨_,rfl,some a,cap,by rw [hlen],by rw [hlen];exact hlc,λhpos=>?_⟩,?_,?_⟩
      ·rw [hlen] at hpos
       obtain ⟨g,o,rfl,hg⟩:=hpl hpos;refine ⟨g,o,rfl,hg,hg,λi x hi=>?_⟩
       have hil:i<len:=by
        rcases Nat.lt_or_ge i len with h' | h'
        ·exact h'
        ·rw [List.getElem?_eq_none (by rw [hlen];exact h')] at hi;cases hi
       rw [List.getElem?_map,List.getElem?_range hil] at hi;injection hi with hi;subst hi;exact (hf i hil g o rfl).1
      ·rw [hlen];unfold maxLen at hm;omega
      ·intro x hx'
       obtain ⟨i,hi,rfl⟩:=List.mem_map.1 hx';have hi:=List.mem_range.1 hi;obtain ⟨g,o,ha,hg⟩:=hpl (by omega)
       exact (hf i hi g o ha).2
   ·cases h
  ·rename_i F hu
   split at h
   ·rename_i gs hg
    cases hb:(P.cellsOf t).beq gs.size
    ·rw [hb] at h;cases h
    ·rw [hb] at h
     injection h with h;subst h;have hct:=Nat.eq_of_beq_eq_true hb;obtain ⟨xs,m,rfl,_,hl,hxl,hxx⟩:=DataW.trod_struct hu hx;have:=fld_opens (qbj n) F.toList 0 gs hg m cs (by omega) λi f hi=>by
      have h1:F[i]? = some f:=by rw [← Array.getElem?_toList];exact hi
      have h2:=hxx i f h1;have hil:i<xs.length:=by
       rw [hxl];exact (Array.getElem?_eq_some_iff.1 h1).1
      rw [List.getElem?_eq_getElem hil] at h2;exact ⟨_,h2⟩
     rwa [List.drop_zero] at this
   ·cases h
  ·rename_i len e hu
   split at h
   ·rename_i fs1 hg
    cases hb1:(P.cellsOf e).beq fs1.size
    ·rw [hb1] at h;cases h
    ·rw [hb1] at h
     have hce:=Nat.eq_of_beq_eq_true hb1;dsimp only [cond_true] at h;split at h
     ·rename_i gs hr
      cases hb:(P.cellsOf t).beq gs.size
      ·rw [hb] at h;cases h
      ·rw [hb] at h
       injection h with h;subst h;have hct:=Nat.eq_of_beq_eq_true hb;obtain ⟨xs,m,rfl,_,hl,hxl,hxx⟩:=DataW.trod_array hu hx;have:=rep_opens (qbj n e fs1 hg) hce len gs hr m 0 cs (by omega) λi hi=>by
        have h2:=hxx i hi;rw [List.getElem?_eq_getElem (by omega)] at h2
        rw [Nat.zero_add];exact ⟨_,h2⟩
       rwa [Nat.zero_mul,List.drop_zero] at this
     ·cases h
   ·cases h
  ·cases h
theorem qed {r:Reach} {b0:Nat} (x:CK) (t:TypeId) (ht:ckT P t=some x) {v:Value} {d:DataW H} {ps:List MemPlace} (hv:Value.okWide P w r b0 t v) (h:DataW.Trod enc P w base spare held t v d ps) :
  ∃ p:x.Pay,(x.comp p).Rep (Cx.of (Here w)) w v∧x.Big p:=by
 obtain ⟨fuel,hf⟩:=h;unfold ckT at ht;split at ht
 ·rename_i F hu
  cases hk:tyK P 20 t with
  | none=>rw [hk] at ht;cases ht
  | some ks =>
   rw [hk] at ht;injection ht with ht;subst ht;obtain ⟨cs,rfl,hsz⟩:=okWide_struct hu hv;obtain ⟨p,hp,hb⟩:=qbj 20 t ks hk fuel _ _ hf;obtain ⟨h1,h2,h3⟩:=q2k.reps ks p _ hp;refine ⟨p,⟨cs,rfl,?_,λi c hi=>?_,λi u hi=>?_⟩,hb⟩
   ·rw [← h3];simp [Value.cells]
   ·obtain ⟨u,hu,hr⟩:=h1 i c hi
    exact ⟨u,by simpa [Value.cells] using hu,hr⟩
   ·exact h2 i u (by simpa [Value.cells] using hi)
 ·cases ht
 ·rename_i hns hna
  split at ht
  ·rename_i k hk
   injection ht with ht;subst ht;have hone:v.cells.toList=[v]:=by
    unfold tyK at hk;split at hk
    ·rename_i hu;obtain ⟨n,rfl⟩:=okWide_int hu hv;rfl
    ·rename_i hu;obtain ⟨n,rfl⟩:=okWide_bool hu hv;rfl
    ·rename_i hu;obtain ⟨n,rfl⟩:=okWide_string hu hv;rfl
    ·rename_i hu;obtain ⟨a,n,c,rfl⟩:=okWide_slice hu hv;rfl
    ·rename_i hu;exact absurd hu (hns _)
    ·rename_i hu;exact absurd hu (hna _ _)
    ·cases hk
   obtain ⟨p,⟨v',h1,h2⟩,h3⟩:=qbj 20 t (.one k) hk fuel _ _ hf;rw [hone] at h1;injection h1 with h1;subst h1;exact ⟨p,h2,h3⟩
  ·cases ht
end
end R
end Go.Proofs.YtednmlmllbkhhaaGreatDoor
namespace Go.Proofs.YtednmlmllbkhhaaGreatDoor
open Go.RowKit R Geo.Zn Zl
abbrev ckAreas:CK:=q5g
noncomputable def consMr:List Con:=[cHead,cFewZ,cAll,cOne.lent,q8r.lent,cTexts,qax.lent,q8y.lent,cRzAll,cRzOne.lent,q73.lent,qei.lent,qcf.lent]
def cLMat:Con:=.of 3 [ckAreas,q0n,q0n,ckPt] [q0u] (λq=>CK.Big ckAreas q.1∧CK.Big q0n q.2.1∧CK.Big q0n q.2.2.1∧CK.Big ckPt q.2.2.2) (λ_=>true)
set_option maxRecDepth 100000 in
theorem box_vc (x y w h:Int) (hp:cBox.pre (x,y,w,h)) :
    ((-9223372036854775808:Int)≤x+w∧x+w≤(9223372036854775807:Int))∧((-9223372036854775808:Int)≤x+w∧x+w≤(9223372036854775807:Int))∧((-9223372036854775808:Int) ≤
    y+h∧y+h≤(9223372036854775807:Int))∧((-9223372036854775808:Int)≤y+h∧y+h≤(9223372036854775807:Int))∧[(x,y),(x+w,y),(x+w,y+h),(x,y+h)]=boxL (x,y,
    w,h)
     := by
  obtain ⟨h1,h2,h3,h4⟩:(0≤x∧x≤100)∧(0≤y∧y≤100)∧(0≤w∧w≤100)∧(0≤h∧h≤100):=hp;exact ⟨by omega,by omega,by omega,by omega,rfl⟩
set_option maxRecDepth 100000 in
theorem fewR_vc (l:List Ar) :
    (∃ (p':Nat),(p'≤(6:Nat)∧p'≤l.length∧((List.take p' l).all λ(a:Ar)=>decide (a.2.2.length≤(12:Nat))&&decide (List.length a.1≤(100:Nat)))=true)∧((0:Int) =
    (p':Int)∧l=l∧(6:Int)=(6:Int)∧True)∧True∧True∧True∧True∧True∧True∧True∧True∧True)∧∀ (p:Nat),p≤(6:Nat)∧p≤l.length∧((List.take p l).all λ(a
    : Ar)=>decide (a.2.2.length≤(12:Nat))&&decide (List.length a.1≤(100:Nat)))=true→bif decide ((p:Int)<(l.length:Int)) then bif decide ((p:Int)<(6:Int)) then ((0
    : Int)≤(p:Int)∧(p:Int)<(l.length:Int))∧bif decide ((12:Int)<(↑(l.getD (p:Int).toNat ([],(0:Int),[])).2.2.length:Int)) then false=q6s l (6:Int) else ((0 :
    Int)≤(p:Int)∧(p:Int)<(l.length:Int))∧bif decide ((100:Int)<(↑(l.getD (p:Int).toNat ([],(0:Int),[])).1.length:Int)) then false=q6s l (6:Int) else
    ((-9223372036854775808:Int)≤(p:Int)+(1:Int)∧(p:Int)+(1:Int)≤(9223372036854775807:Int))∧∃ (p':Nat),(p'≤(6:Nat)∧p'≤l.length∧((List.take p' l).all λ(a
    : Ar)=>decide (a.2.2.length≤(12:Nat))&&decide (List.length a.1≤(100:Nat)))=true)∧l.length-p'<l.length-p∧((p:Int)+(1:Int)=(p':Int)∧l=l∧(6:Int)=(6
    : Int)∧True)∧True∧True∧True∧True∧True∧True∧True∧True∧True else decide ((l.length:Int)≤(6:Int))=q6s l (6:Int) else decide ((l.length:Int)≤(6:Int)) =
    q6s l (6:Int)
     := by
  simp only [and_true,eq_self,and_self];refine ⟨⟨0,⟨Nat.zero_le _,Nat.zero_le _,rfl⟩,rfl⟩,?_⟩;rintro k ⟨h6,hk,ha⟩;have e:q6s l 6=(l.all (λa=>decide (a.2.2.length≤12)&&decide (a.1.length≤100))&&decide ((l.length:Int)≤6)):=rfl
  rw [e];refine bifP (λhb=>bifP (λh7=>?_) λh7=>?_) λhb=>?_
  rotate_left
  · have h8:¬ (l.length:Int)≤6:=by have:=of_decide_eq_true hb;have:=of_decide_eq_false h7;omega
    rw [decide_eq_false h8,Bool.and_false]
  · have:k=l.length:=by have:=of_decide_eq_false hb;omega
    subst this;rw [List.take_length] at ha;rw [ha];rfl
  have hkl:k<l.length:=by have:=of_decide_eq_true hb;omega
  have h7:=of_decide_eq_true h7;simp only [Int.toNat_natCast];refine ⟨by omega,bifP (λc=>?_) λc=>⟨by omega,bifP (λd=>?_) λd=>⟨by omega,k+1,⟨by omega,by omega,?_⟩,by omega,by omega⟩⟩⟩
  · have c:=of_decide_eq_true c
    rw [qbk l ar0 _ k hkl (by rw [decide_eq_false (show ¬ (l.getD k ar0).2.2.length≤12 by show ¬ (l.getD k ([],0,[])).2.2.length≤12;omega)];rfl)];rfl
  · have d:=of_decide_eq_true d
    rw [qbk l ar0 _ k hkl (by rw [decide_eq_false (show ¬ (l.getD k ar0).1.length≤100 by show ¬ (l.getD k ([],0,[])).1.length≤100;omega),Bool.and_false])];rfl
  · have c:=of_decide_eq_false c
    have d:=of_decide_eq_false d;rw [q8v l ar0 _ k hkl,ha,decide_eq_true (show (l.getD k ar0).2.2.length≤12 by show (l.getD k ([],0,[])).2.2.length≤12;omega),decide_eq_true (show (l.getD k ar0).1.length≤100 by show (l.getD k ([],0,[])).1.length≤100;omega)];rfl
set_option maxRecDepth 100000 in
theorem fewZ_vc (l:List Ar) :
    (6:Int)=(6:Int)∧q6s l (6:Int)=q6s l (6:Int)
     := by
  exact ⟨rfl,rfl⟩
set_option maxRecDepth 100000 in
theorem texts_vc (a b:List Str) (h:cTexts.pre (a,b)) :
    bif (a.length:Int) != (b.length:Int) then false=(a==b) else (∃ (p':Nat),(p'≤a.length∧List.take p' a=List.take p' b)∧((0:Int)=(p':Int)∧a=a∧b=b∧True) ∧
    True∧True∧True∧True∧True∧True∧True∧True∧True)∧∀ (p:Nat),p≤a.length∧List.take p a=List.take p b→bif decide ((p:Int)<(a.length:Int)) then ((0:Int)≤(↑p
    : Int)∧(p:Int)<(a.length:Int))∧((0:Int)≤(p:Int)∧(p:Int)<(b.length:Int))∧bif !a.getD (p:Int).toNat []==b.getD (p:Int).toNat [] then false=(a==b)
    else ((-9223372036854775808:Int)≤(p:Int)+(1:Int)∧(p:Int)+(1:Int)≤(9223372036854775807:Int))∧∃ (p':Nat),(p'≤a.length∧List.take p' a=List.take p' b) ∧
    a.length-p'<a.length-p∧((p:Int)+(1:Int)=(p':Int)∧a=a∧b=b∧True)∧True∧True∧True∧True∧True∧True∧True∧True∧True else true=(a==b)
     := by
  have h:a.length≤1000000:=h;simp only [and_true,eq_self,and_self];refine bifP (λhn=>?_) λhn=>⟨⟨0,⟨Nat.zero_le _,rfl⟩,rfl⟩,?_⟩
  · symm
    rw [beq_eq_false_iff_ne];rintro rfl;simp at hn
  have hn:a.length=b.length:=by
    have:((a.length:Int) != (b.length:Int))=false:=hn
    have:=bne_eq_false_iff_eq.1 this
    omega
  rintro k ⟨hk,ht⟩;refine bifP (λhb=>?_) λhb=>?_
  · have hka:k<a.length:=by have:=of_decide_eq_true hb;omega
    have hkb:k<b.length:=by omega
    simp only [Int.toNat_natCast];refine ⟨by omega,by omega,bifP (λc=>?_) λc=>⟨by omega,k+1,⟨by omega,?_⟩,by omega,by omega⟩⟩
    · symm
      rw [beq_eq_false_iff_ne];rintro rfl;simp at c
    · have c:(a.getD k []==b.getD k [])=true:=cast (Bool.not_eq_false' _) c
      rw [q2d a [] k hka,q2d b [] k hkb,ht,eq_of_beq c]
  · have hka:a.length≤k:=by have:=of_decide_eq_false hb;omega
    rw [List.take_of_length_le hka,List.take_of_length_le (by omega)] at ht
    exact (beq_iff_eq.2 ht).symm
theorem few_iff {l:List Ar}:q6s l 6=true↔FewZ l:=by
 unfold q6s FewZ;rw [Bool.and_eq_true,List.all_eq_true,decide_eq_true_eq];constructor
 ·rintro ⟨h1,h2⟩
  refine ⟨by omega,λa ha=>?_⟩
  have:=h1 a ha
  rw [Bool.and_eq_true,decide_eq_true_eq,decide_eq_true_eq] at this;exact ⟨this.2,this.1⟩
 ·rintro ⟨h1,h2⟩
  refine ⟨λa ha=>?_,by omega⟩
  rw [Bool.and_eq_true,decide_eq_true_eq,decide_eq_true_eq];exact ⟨(h2 a ha).2,(h2 a ha).1⟩
set_option maxRecDepth 100000 in
theorem zlmat_vc (l:List Ar) (n i x y:Int) (h:cLMat.pre (l,n,i,x,y)) :
    True∧True∧bif !q6s l (6:Int) then true=true else FewZ l∧FewZ l∧FewZ l∧FewZ l∧FewZ l∧FewZ l∧bif q0k Lx.q03 l==q0k Lx.q03 l then (allZ Lx.q03 l n (x,
    y)).1.length≤(1000000:Nat)∧bif (allZ Lx.q03 l n (x,y)).1==(allZ Lx.q03 l n (x,y)).1 then bif (allZ Lx.q03 l n (x,y)).2==(allZ Lx.q03 l n (x,y)).2 then bif (oneZ
    Lx.q03 l n (x,y)).1==(oneZ Lx.q03 l n (x,y)).1 then bif (oneZ Lx.q03 l n (x,y)).2==(oneZ Lx.q03 l n (x,y)).2 then FewZ l∧FewZ l∧bif q34 Lx.q03 l n==q34 Lx.q03
    l n then FewZ l∧FewZ l∧(q2e Lx.q03 l n i==q2e Lx.q03 l n i)=true else false=true else false=true else false=true else false=true else false=true else false =
    true
     := by
  refine ⟨trivial,trivial,bifP (λ_=>rfl) λhf=>?_⟩
  have hF:FewZ l:=few_iff.1 (cast (Bool.not_eq_false' _) hf);have hlen:(allZ Lx.q03 l n (x,y)).1.length≤1000000:=by
    unfold allZ q1j;split
    · show (q3u _).length≤_
      unfold q3u ofK;rw [List.length_mergeSort,List.length_map];have h1:=List.length_filter_le (hitZ (x,y)) (l.filter λa=>a.2.1==n)
      have h2:=List.length_filter_le (λa:Ar=>a.2.1==n) l
      have h3:=hF.1;omega
    · exact Nat.zero_le _
  simp only [beq_self_eq_true,cond_true,and_true];simp only [hF,hlen,and_self]
end Go.Proofs.YtednmlmllbkhhaaGreatDoor
namespace Go.Proofs.YtednmlmllbkhhaaGreatDoor
namespace Zl
open Geo Geo.Zn
theorem inv_of {x:Rat} (h:0<x):∃ k:Rat,0<k∧k*x=1:=⟨x⁻¹,Rat.inv_pos.2 h,Rat.inv_mul_cancel x (by intro e;rw [e] at h;exact absurd h (by decide))⟩
theorem at_end (a b:Pt) {σ:Rat} (r:Rat):at_ (at_ a b σ) b r=at_ a b ((1-r)*σ+r):=by unfold at_;ext <;> grind
theorem behind {a b s p:P2} (ha:onB a=true) (hb:onB b=true) (hs:onB s=true) (hab:a≠b) (hsb:s≠b) {σ:Rat} (s1:σ≤1) (es:pt s=at_ (pt a) (pt b) σ) :
  betI p s b=true↔onB p=true∧∃ t:Rat,σ≤t∧t≤1∧pt p=at_ (pt a) (pt b) t:=by
 have hlt:0<1-σ:=by
  rcases q09 σ 1 with h | h
  ·grind
  ·have e:σ=1:=by grind
   rw [e,at_one] at es;exact absurd (q30 es) hsb
 constructor
 ·intro h
  refine ⟨q6m h,?_⟩;obtain ⟨r,r0,r1,e⟩:=(q27 (q6m h) hs hb hsb).1 h;rw [es,at_end] at e;have m1:=Rat.mul_nonneg r0 (Rat.le_of_lt hlt);have m2:=Rat.mul_nonneg (show 0≤1-r by grind) (Rat.le_of_lt hlt)
  exact ⟨_,by grind,by grind,e⟩
 ·rintro ⟨op,t,t0,t1,e⟩
  refine (q27 op hs hb hsb).2 ?_;obtain ⟨k,k0,ek⟩:=inv_of hlt;have m1:=Rat.mul_nonneg (show 0≤t-σ by grind) (Rat.le_of_lt k0)
  have m2:=Rat.mul_nonneg (show 0≤1-t by grind) (Rat.le_of_lt k0)
  refine ⟨(t-σ)*k,m1,by grind,?_⟩
  rw [es,at_end,e]
  congr 1
  grind
theorem dist_two {a b s p:P2} (hs:onB s=true) (hp:onB p=true) {σ t:Rat} (es:pt s=at_ (pt a) (pt b) σ) (e:pt p=at_ (pt a) (pt b) t) :
  ((q0f s p:Int):Rat)=(t-σ)*(t-σ)*(((pt b).1-(pt a).1)*((pt b).1-(pt a).1)+((pt b).2-(pt a).2)*((pt b).2-(pt a).2)):=by
 unfold q0f;rw [hs,hp,Bool.and_self,if_pos rfl];have e1:((p.1:Int):Rat)=(pt a).1+t*((pt b).1-(pt a).1):=congrArg Prod.fst e;have e2:((p.2:Int):Rat)=(pt a).2+t*((pt b).2-(pt a).2):=congrArg Prod.snd e;have e3:((s.1:Int):Rat)=(pt a).1+σ*((pt b).1-(pt a).1):=congrArg Prod.fst es;have e4:((s.2:Int):Rat)=(pt a).2+σ*((pt b).2-(pt a).2):=congrArg Prod.snd es;simp only [Rat.intCast_sub,Rat.intCast_mul,Rat.intCast_add];rw [e1,e2,e3,e4]
 grind
theorem near_next {y:List P2} {a b s t:P2} (ha:onB a=true) (hb:onB b=true) (hab:a≠b) {j:Nat} (hj:(q0p y a b)[j]? = some s) (hsb:s≠b)
  (h1:t=b∨∃ i,i<y.length∧y[i]? = some t∧t≠s∧betI t s b=true)
  (h2:∀ i p,i<y.length→y[i]? = some p→p≠s→betI p s b=true→q0f s t≤q0f s p):(q0p y a b)[j+1]? = some t:=by
 have H:=q43 (y:=y) ha hb hab;have hne:pt a≠pt b:=λh=>hab (q30 h)
 have hsL:s∈q0p y a b:=List.mem_of_getElem? hj;obtain ⟨os,σ,s0,s1,es⟩:=q4s H ha hb hab hsL;have tt:∃ τ:Rat,σ<τ∧τ≤1∧pt t=at_ (pt a) (pt b) τ∧onB t=true∧t∈q0p y a b:=by
  rcases h1 with e | ⟨i,hi,ei,hts,hbt⟩
  ·subst e
   refine ⟨1,?_,by decide,(at_one ..).symm,hb,(H.mem _).2 (.inr (.inl rfl))⟩
   rcases q09 σ 1 with h | h
   ·exact h
   ·rw [show σ=1 by grind,at_one] at es
    exact absurd (q30 es) hsb
  ·obtain ⟨ot,τ,t0,t1,et⟩:=(behind ha hb os hab hsb s1 es).1 hbt
   refine ⟨τ,?_,t1,et,ot,(H.mem _).2 (.inr (.inr ⟨List.mem_of_getElem? ei,(q27 ot ha hb hab).2 ⟨τ,by grind,t1,et⟩⟩))⟩
   rcases q09 σ τ with h | h
   ·exact h
   ·rw [show τ=σ by grind,← es] at et
    exact absurd (q30 et) hts
 obtain ⟨τ,hst,t1,et,ot,htL⟩:=tt;have hd:=(q4v H ha hb hab hsL htL es et).2 hst;obtain ⟨k,hk,ek⟩:=List.getElem_of_mem htL;have hup:=List.pairwise_iff_getElem.1 H.up;obtain ⟨hjl,ej⟩:=List.getElem?_eq_some_iff.1 hj;have hjk:j<k:=by
  rcases Nat.lt_trichotomy j k with h | h | h
  ·exact h
  ·subst h;rw [ej] at ek;rw [ek] at hd;omega
  ·have:=hup k j hk hjl h;rw [ek,ej] at this;omega
 by_cases hkj:k=j+1
 ·subst hkj;rw [List.getElem?_eq_getElem hk,ek]
 ·exfalso
  have hj1:j+1<(q0p y a b).length:=by omega
  have d1:=hup j (j+1) hjl hj1 (by omega)
  have d2:=hup (j+1) k hj1 hk (by omega)
  rw [ej] at d1;rw [ek] at d2;have hqL:(q0p y a b)[j+1]∈q0p y a b:=List.getElem_mem hj1;generalize (q0p y a b)[j+1]=q at d1 d2 hqL;obtain ⟨oq,ρ,r0,r1,eq_⟩:=q4s H ha hb hab hqL;have g1:=(q4v H ha hb hab hsL hqL es eq_).1 d1;have g2:=(q4v H ha hb hab hqL htL eq_ et).1 d2;have hqs:q≠s:=λe=>by rw [e] at d1;omega
  have hbq:betI q s b=true:=(behind ha hb os hab hsb s1 es).2 ⟨oq,ρ,Rat.le_of_lt g1,r1,eq_⟩;rcases (H.mem q).1 hqL with e | e | ⟨hy,_⟩
  ·rw [e] at eq_
   have:=q6o hne ((q39 (pt a) (pt b)).trans eq_)
   grind
  ·rw [e] at eq_
   have:=q6o hne ((at_one (pt a) (pt b)).trans eq_)
   grind
  ·obtain ⟨i,hi,ei⟩:=List.getElem_of_mem hy
   have h:=h2 i q hi (by rw [List.getElem?_eq_getElem hi,ei]) hqs hbq
   have c1:¬ q0f s q<q0f s t:=by omega
   refine c1 (cast_lt.1 ?_);rw [dist_two os oq es eq_,dist_two os ot es et];exact (sq_lt (by grind) (by grind) (ne_sq hne)).2 (by grind)
theorem stop_first {y:List P2} {a b:P2} (ha:onB a=true) (hb:onB b=true) (hab:a≠b):(q0p y a b)[0]? = some a:=by
 have H:=q43 (y:=y) ha hb hab;have haL:a∈q0p y a b:=(H.mem _).2 (.inl rfl);have hup:=List.pairwise_iff_getElem.1 H.up;obtain ⟨k,hk,ek⟩:=List.getElem_of_mem haL;have h0:0<(q0p y a b).length:=by omega
 by_cases hk0:k=0
 ·subst hk0;rw [List.getElem?_eq_getElem hk,ek]
 ·exfalso
  have d:=hup 0 k h0 hk (by omega)
  rw [ek] at d;have hz:q0f a a=0:=by unfold q0f;split <;> simp
  have:=(qeb a (q0p y a b)[0]).1
  omega
theorem stop_last {y:List P2} {a b:P2} (ha:onB a=true) (hb:onB b=true) (hab:a≠b) {j:Nat} (hj:(q0p y a b)[j]? = some b):j+1=(q0p y a b).length:=by
 have H:=q43 (y:=y) ha hb hab;have hne:pt a≠pt b:=λh=>hab (q30 h)
 have hup:=List.pairwise_iff_getElem.1 H.up;obtain ⟨hjl,ej⟩:=List.getElem?_eq_some_iff.1 hj;rcases Nat.lt_or_ge (j+1) (q0p y a b).length with h | h
 ·exfalso
  have d:=hup j (j+1) hjl h (by omega)
  rw [ej] at d;have hqL:(q0p y a b)[j+1]∈q0p y a b:=List.getElem_mem h;obtain ⟨oq,ρ,r0,r1,eq_⟩:=q4s H ha hb hab hqL;have hbL:b∈q0p y a b:=List.mem_of_getElem? hj;have:=(q4v H ha hb hab hbL hqL (at_one (pt a) (pt b)).symm eq_).1 d
  grind
 ·omega
end Zl
end Go.Proofs.YtednmlmllbkhhaaGreatDoor

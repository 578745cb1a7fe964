/-
  Several texts in one: ZnT, ZnU, ZnV, ZnZ, ZnW, ZnXh, ZnX, R15N, ZnY, ZnK.
-/
import Derived.Test.YtnpkpehlncnkgaaGreatDoorPP
import Derived.Test.YtnpkpehlncnkgaaGreatDoorPN
import Derived.Test.YtnpkpehlncnkgaaGreatDoorPO
import Derived.Lib.OwnBridge
import Derived.Test.YtnpkpehlncnkgaaGreatDoorPK
import Derived.OpenShut
set_option linter.unusedVariables false
namespace Go.Proofs.YtnpkpehlncnkgaaGreatDoor
open Go.RowKit R Geo.Zn Zl
abbrev kAr:Kds:=.cons .str (.cons (.int .i64) (.one (.sl kPt)))
abbrev qa8:CK:=.one (.sl kAr)
abbrev kStr:Kds:=.one .str
abbrev ckStrs:CK:=.one (.sl kStr)
def FewZ (l:List Ar):Prop:=l.length≤6∧∀ a∈l,a.1.length≤100∧a.2.2.length≤12
def cKnown:Con:=.of 34 [q0s] [q10] (λ_=>True) q12
def q8j:Con:=.of 16 [qa8] [q10] FewZ (q0b Lx.q02)
def seenRow (m:List (Str×Bool)):MRow:=⟨51,.one .str,.one .bool,m⟩
def getZ (k:Str) (m:List (Str×Bool)):Option Bool:=Mp.get (CK.eqB (.one .str)) k m
def SeenZ (l:List Ar) (k:Nat) (m:List (Str×Bool)):Prop:=k≤l.length∧(∀ s,(getZ s m).getD false=(l.take k).any λa=>a.1==s)∧(l.take k).all (okA Lx.q02)=true∧((l.take k).map λa=>a.1).Nodup
def anZV (l:List Ar):List (Nat×Ann) :=
 [annX 0 (Nat×List (Str×Bool)) (λst p=>st.hd { live:=[0,3,7,8],sav:=[],box:=[] } [(9,R.int .i64 p.1)] [] [] [(6,seenRow p.2)] none) (λ_ p=>SeenZ l p.1 p.2) (λ_ p=>l.length-p.1)]
def strRow (l:List Str):Row:=⟨9,kStr,l⟩
def oSortS:OCon:={ f:=51,e:=9,fs:=kStr,args:=[],fa:=.no,ret:=false,pre:=λxs _ _=>List.length xs≤1000000,F:=λxs _ _=>q3u xs }
noncomputable def inlOf':List (Nat×Func):=[(50,Tryz.f50),(71,Tryz.f71)]
noncomputable def kitLo:Kit:={ cons:=[q8j,cKnown,cOn,qib],os:=[oSortS],inls:=inlOf' }
def cLook:Con:=.of 29 [qa8,q0s,ckPt] [ckStrs,q10,q0s] (λq=>FewZ q.1) (λq=>q1a Lx.q02 q.1 q.2.1 q.2.2)
def q2e (l:List Ar) (n:Int) (p:P2) (k:Nat):List Str:=((ofK (l.take k) n).filter (hitZ p)).map λa=>a.1
def inTo (l:List Ar) (n:Int) (p:P2) (k:Nat):Bool:=(ofK (l.take k) n).any λa=>decide (0<q0i a.2.2 p)
def anLoI (l:List Ar) (n:Int) (p:P2):Nat→List (Nat×Ann):=λf=>bif Nat.beq f 71 then
 [annX 0 Nat (λst k=>st.hd { live:=[0,1,2,6,7],sav:=savK 0 [(50,[5,9,10])],box:=[29002,29003,5],lp:=[5,9,10] } [(8,R.int .i64 k)] [(9,[.own 1740]),(10,[.val .bool (inTo l n p k)])] [(1740,strRow (q2e l n p k))] [] none) (λ_ k=>k≤l.length) (λ_ k=>l.length-k)] else []
def cAll:Con:=.of 12 [qa8,q0s,ckPt] [ckStrs,q0s] (λq=>FewZ q.1) (λq=>allZ Lx.q02 q.1 q.2.1 q.2.2)
def cOne:Con:=.of 14 [qa8,q0s,ckPt] [ckStr1,q0s] (λq=>FewZ q.1) (λq=>oneZ Lx.q02 q.1 q.2.1 q.2.2)
def q6t:Con:=.of 19 [qa8,q0s] [q10] (λq=>FewZ q.1) (λq=>q2f Lx.q02 q.1 q.2)
def q8p:Con:=.of 21 [qa8,q0s,q0s] [q10] (λq=>FewZ q.1) (λq=>q0g Lx.q02 q.1 q.2.1 q.2.2)
noncomputable def inlEach:List (Nat×Func):=inlOf'++[(38,Tryz.f38)]
noncomputable def kitAz:Kit:={ cons:=[q8j,cKnown,cApartP],inls:=inlEach++[(39,Tryz.f39),(40,Tryz.f40)] }
noncomputable def kitNz:Kit:={ cons:=[q8j,cKnown,cWithin],inls:=inlEach++[(43,Tryz.f43),(44,Tryz.f44)] }
def apB (a b:Ar):Bool:=a.1==b.1||q2t a.2.2 b.2.2
def anAz (l:List Ar) (n:Int):Nat→List (Nat×Ann):=λf=>bif Nat.beq f 71 then
 [annX 0 Nat (λst k=>bif st.off.beq 16001500 then st.hd { live:=[0,1,2,6,7],sav:=savK 0 [(16,[5,6]),(17,[11])],box:=[2,3,16005,16006,16011002,16011003],lp:=[5,6] } [(8,R.int .i64 k)] [] [] [] none
   else st.hd { live:=[0,1,2,6,7],sav:=savK 0 [(16,[5,6]),(9,[]),(16,[5,6]),(23,[0,1,2,6,7,8,16]),(16,[5,6]),(17,[11])],box:=[2,3,16005,16006,16011002,16011003,16001707,16001715003,16001715009005,16001715009006,16001715009011002,16001715009011003],lp:=[5,6] } [(8,R.int .i64 k)] [] [] [] none)
  (λst k=>k≤l.length∧bif st.off.beq 16001500 then (ofK (l.take k) n).all (λa=>(ofK l n).all (apB a))=true else (ofK (l.take k) n).all (apB (Get.boxOf kAr 16001715003 st))=true)
  (λ_ k=>l.length-k)] else []
def anNz (l:List Ar) (n i:Int):Nat→List (Nat×Ann):=λf=>bif Nat.beq f 71 then
 [annX 0 Nat (λst k=>bif st.off.beq 22001500 then st.hd { live:=[0,1,2,6,7],sav:=savK 0 [(16,[5,6]),(23,[17])],box:=[3,5,22005,22006,22011002,22011003],lp:=[5,6] } [(8,R.int .i64 k)] [] [] [] none
   else st.hd { live:=[0,1,2,6,7],sav:=savK 0 [(16,[5,6]),(10,[]),(16,[5,6]),(23,[0,1,2,6,7,8,16]),(16,[5,6]),(23,[17])],box:=[3,5,22005,22006,22011002,22011003,22001707,22001715003,22001715009005,22001715009006,22001715009011002,22001715009011003],lp:=[5,6] } [(8,R.int .i64 k)] [] [] [] none)
  (λst k=>k≤l.length∧bif st.off.beq 22001500 then (ofK (l.take k) n).all (λa=>(ofK l i).any λb=>q0j a.2.2 b.2.2)=true else (ofK (l.take k) i).any (λb=>q0j (Get.boxOf kAr 22001715003 st).2.2 b.2.2)=false)
  (λ_ k=>l.length-k)] else []
theorem qe4 {α β:Type} {eq:α→α→Bool} (he:∀ a b,eq a b=true↔a=b) (a n:α) (v:β):∀ xs:List (α×β),(n=a→Mp.get eq n (Mp.put eq a v xs)=some v)∧(n≠a→Mp.get eq n (Mp.put eq a v xs)=Mp.get eq n xs)
 | []=>by
  show (n=a→(if eq n a=true then some v else none)=some v)∧(n≠a→(if eq n a=true then some v else none)=none)
  exact ⟨λh=>if_pos ((he _ _).2 h),λh=>if_neg λe=>h ((he _ _).1 e)⟩
 | x::r=>by
  have ih:=qe4 he a n v r;show (n=a→Mp.get eq n (if eq a x.1=true then (a,v)::r else x::Mp.put eq a v r)=some v)∧(n≠a→Mp.get eq n (if eq a x.1=true then (a,v)::r else x::Mp.put eq a v r)=(if eq n x.1=true then some x.2 else Mp.get eq n r))
  by_cases hx:a=x.1
  ·rw [if_pos ((he _ _).2 hx)]
   show (n=a→(if eq n a=true then some v else Mp.get eq n r)=some v)∧(n≠a→(if eq n a=true then some v else Mp.get eq n r)=_)
   refine ⟨λh=>if_pos ((he _ _).2 h),λh=>?_⟩
   rw [if_neg (λe=>h ((he _ _).1 e)),if_neg (λe=>h (((he _ _).1 e).trans hx.symm))]
  ·rw [if_neg (λe=>hx ((he _ _).1 e))]
   show (n=a→(if eq n x.1=true then some x.2 else Mp.get eq n (Mp.put eq a v r))=some v)∧(n≠a→(if eq n x.1=true then some x.2 else Mp.get eq n (Mp.put eq a v r))=_)
   refine ⟨λh=>?_,λh=>?_⟩
   ·rw [if_neg (λe=>hx (h.symm.trans ((he _ _).1 e))),ih.1 h]
   ·rw [ih.2 h]
theorem getZ_put (k q:Str) (v:Bool) (m:List (Str×Bool)):getZ k (Mp.put (λ(x y:List UInt8)=>x==y) q v m)=if k=q then some v else getZ k m:=by
 have he:∀ a b:List UInt8,(a==b)=true↔a=b:=λa b=>beq_iff_eq
 show Mp.get (λ(x y:List UInt8)=>x==y) k _=if k=q then some v else Mp.get (λ(x y:List UInt8)=>x==y) k m
 by_cases h:k=q
 ·rw [if_pos h];exact (qe4 he q k v m).1 h
 ·rw [if_neg h];exact (qe4 he q k v m).2 h
abbrev ar0:Ar:=(([]:List UInt8),(0:Int),([]:List P2))
theorem seen_next {l:List Ar} {k:Nat} {m:List (Str×Bool)} (h:SeenZ l k m) (hk:k<l.length) (hg:(getZ (l.getD k ar0).1 m).getD false=false) (ho:okA Lx.q02 (l.getD k ar0)=true) :
  SeenZ l (k+1) (Mp.put (λ(x y:List UInt8)=>x==y) (l.getD k ar0).1 true m):=by
 obtain ⟨h1,h2,h3,h4⟩:=h;refine ⟨by omega,λs=>?_,?_,?_⟩
 ·rw [getZ_put,any_step l ar0 _ k hk]
  by_cases hs:s=(l.getD k ar0).1
  ·rw [if_pos hs]
   have:((l.getD k ar0).1==s)=true:=beq_iff_eq.2 hs.symm
   rw [this,Bool.or_true];rfl
  ·rw [if_neg hs,h2]
   have:((l.getD k ar0).1==s)=false:=beq_eq_false_iff_ne.2 λe=>hs e.symm
   rw [this,Bool.or_false]
 ·rw [qds l ar0 _ k hk,h3,ho];rfl
 ·rw [q1x l ar0 k hk,List.map_append,List.nodup_append]
  refine ⟨h4,by simp,λa ha b hb=>?_⟩
  have hb:b=(l.getD k ar0).1:=by simpa using hb
  rw [h2] at hg;intro e;obtain ⟨x,hx,rfl⟩:=List.mem_map.1 ha;have:=List.any_eq_false.1 hg x hx;exact this (beq_iff_eq.2 (e.trans hb))
theorem seen_end {l:List Ar} {m:List (Str×Bool)} (h:SeenZ l l.length m):q0b Lx.q02 l=decide (l.length≤400):=by
 obtain ⟨_,_,h3,h4⟩:=h;rw [List.take_length] at h3 h4;unfold q0b;rw [h3,qav.2 h4];rfl
theorem seen_no {l:List Ar} {k:Nat} (hk:k<l.length) (ho:okA Lx.q02 (l.getD k ar0)=false):false=q0b Lx.q02 l:=by
 symm
 unfold q0b;rw [all_no l ar0 _ k hk ho];rfl
theorem seen_twice {l:List Ar} {k:Nat} {m:List (Str×Bool)} (h:SeenZ l k m) (hk:k<l.length) (hg:(getZ (l.getD k ar0).1 m).getD false=true):false=q0b Lx.q02 l:=by
 symm
 rw [← Bool.not_eq_true,q3a];rintro ⟨_,hn,_⟩;rw [h.2.1] at hg;obtain ⟨x,hx,e⟩:=List.any_eq_true.1 hg;have hn2:=hn;rw [← List.take_append_drop k l,List.map_append,List.nodup_append] at hn2;refine hn2.2.2 x.1 (List.mem_map.2 ⟨x,hx,rfl⟩) (l.getD k ar0).1 (List.mem_map.2 ⟨_,?_,rfl⟩) (eq_of_beq e);rw [List.drop_eq_getElem_cons hk];have:l.getD k ar0=l[k]:=by rw [List.getD_eq_getElem?_getD,List.getElem?_eq_getElem hk];rfl
 rw [this];exact List.mem_cons_self ..
theorem qee (l:List Ar) (n:Int) {k:Nat} (hk:k<l.length):ofK (l.take (k+1)) n=ofK (l.take k) n++(if (l.getD k ar0).2.1==n then [l.getD k ar0] else []):=by
 unfold ofK;rw [q1x l ar0 k hk,List.filter_append,List.filter_cons];rfl
theorem hits_succ (l:List Ar) (n:Int) (p:P2) {k:Nat} (hk:k<l.length):q2e l n p (k+1)=q2e l n p k++(if (l.getD k ar0).2.1==n&&decide (0≤q0i (l.getD k ar0).2.2 p) then [(l.getD k ar0).1] else []):=by
 unfold q2e;rw [qee l n hk,List.filter_append,List.map_append]
 congr 1
 cases h1:(l.getD k ar0).2.1==n
 ·rfl
 ·rw [Bool.true_and,if_pos rfl,List.filter_cons,List.filter_nil]
  show ((if decide (0≤q0i (l.getD k ar0).2.2 p)=true then [l.getD k ar0] else []).map λa:Ar=>a.1)=_
  split <;> rfl
theorem in_succ (l:List Ar) (n:Int) (p:P2) {k:Nat} (hk:k<l.length):inTo l n p (k+1)=(inTo l n p k||((l.getD k ar0).2.1==n&&decide (0<q0i (l.getD k ar0).2.2 p))):=by
 unfold inTo;rw [qee l n hk,List.any_append]
 congr 1
 cases h1:(l.getD k ar0).2.1==n
 ·rfl
 ·simp
theorem hits_len (l:List Ar) (n:Int) (p:P2) (k:Nat):(q2e l n p k).length≤l.length:=by
 unfold q2e ofK;rw [List.length_map];exact Nat.le_trans (List.length_filter_le _ _) (Nat.le_trans (List.length_filter_le _ _) (by rw [List.length_take];omega))
set_option maxRecDepth 100000 in
theorem kn_vc (n:Int) :
    bif decide ((1:Int)≤n) then decide (n≤(3:Int))=q12 n else false=q12 n
     := by
  unfold q12;exact bifP (λh=>by rw [h,Bool.true_and]) λh=>by rw [h,Bool.false_and]
set_option maxRecDepth 100000 in
theorem zv_vc (l:List Ar) (h:q8j.pre l) :
    (∃ (p':Nat×List (Str×Bool)),SeenZ l p'.1 p'.2∧((0:Int)=(p'.1:Int)∧l=l∧True∧l=l∧(l.length:Int)=(l.length:Int)∧True)∧True∧True∧True∧([]=p'.2 ∧
    True)∧True∧True∧True∧True∧True)∧∀ (p:Nat×List (Str×Bool)),SeenZ l p.1 p.2→bif decide ((p.1:Int)<(l.length:Int)) then ((0:Int)≤(p.1:Int)∧(p.1:Int) <
    (l.length:Int))∧(l.getD (p.1:Int).toNat ([],(0:Int),[])).1.length≤(1000:Nat)∧bif !Lx.q02 (l.getD (p.1:Int).toNat ([],(0:Int),[])).1 then false=q0b Lx.q02 l
    else bif (Mp.get (λ(x x_1:List UInt8)=>x==x_1) (l.getD (p.1:Int).toNat ([],(0:Int),[])).1 p.2).getD false then false=q0b Lx.q02 l else True∧bif !q12 (l.getD (↑p.1
    : Int).toNat ([],(0:Int),[])).2.1 then false=q0b Lx.q02 l else (l.getD (p.1:Int).toNat ([],(0:Int),[])).2.2.length≤(1000:Nat)∧bif !q0e (l.getD (p.1:Int).toNat
    ([],(0:Int),[])).2.2 then false=q0b Lx.q02 l else ((-9223372036854775808:Int)≤(p.1:Int)+(1:Int)∧(p.1:Int)+(1:Int)≤(9223372036854775807:Int))∧∃ (p':Nat
    × List (Str×Bool)),SeenZ l p'.1 p'.2∧l.length-p'.1<l.length-p.1∧((p.1:Int)+(1:Int)=(p'.1:Int)∧l=l∧True∧l=l∧(l.length:Int)=(l.length:Int)∧True)
    ∧ True∧True∧True∧(Mp.put (λ(x x_1:List UInt8)=>x==x_1) (l.getD (p.1:Int).toNat ([],(0:Int),[])).1 true p.2=p'.2∧True)∧True∧True∧True∧True∧True else decide
    ((l.length:Int)≤(400:Int))=q0b Lx.q02 l
     := by
  obtain ⟨hl,hf⟩:l.length≤6∧∀ a∈l,a.1.length≤100∧a.2.2.length≤12:=h;simp only [and_true,true_and,eq_self,and_self];refine ⟨⟨(0,[]),⟨Nat.zero_le _,λs=>rfl,rfl,List.nodup_nil⟩,rfl,rfl⟩,?_⟩
  rintro ⟨k,m⟩ hs;dsimp only at hs ⊢;refine bifP (λhb=>?_) λhb=>?_
  rotate_left
  · have:k=l.length:=by have:=of_decide_eq_false hb;have:=hs.1;omega
    subst this;rw [seen_end hs];have:(decide ((l.length:Int)≤400))=decide (l.length≤400):=by
      rw [decide_eq_decide];omega
    exact this
  have hk:k<l.length:=by have:=of_decide_eq_true hb;omega
  have hm:=hf _ (q1v l ar0 k hk);simp only [Int.toNat_natCast];have ho:okA Lx.q02 (l.getD k ar0)=(Lx.q02 (l.getD k ar0).1&&(q12 (l.getD k ar0).2.1&&q0e (l.getD k ar0).2.2)):=rfl;refine ⟨by omega,by have:=hm.1;dsimp only [ar0] at this;omega,bifP (λh1=>seen_no hk ?_) λh1=>bifP (λh2=>seen_twice hs hk h2) λh2=>bifP (λh3=>seen_no hk ?_) λh3=>⟨by have:=hm.2;dsimp only [ar0] at this;omega,bifP (λh4=>seen_no hk ?_) λh4=>⟨by omega,(k+1,_),seen_next hs hk h2 ?_,by dsimp only;omega,by dsimp only;omega,rfl⟩⟩⟩
  · rw [ho,show Lx.q02 (l.getD k ar0).1=false from cast (Bool.not_eq_true' _) h1];rfl
  · rw [ho,show q12 (l.getD k ar0).2.1=false from cast (Bool.not_eq_true' _) h3,Bool.false_and,Bool.and_false]
  · rw [ho,show q0e (l.getD k ar0).2.2=false from cast (Bool.not_eq_true' _) h4,Bool.and_false,Bool.and_false]
  · rw [ho,show Lx.q02 (l.getD k ar0).1=true from cast (Bool.not_eq_false' _) h1,show q12 (l.getD k ar0).2.1=true from cast (Bool.not_eq_false' _) h3,show q0e (l.getD k ar0).2.2=true from cast (Bool.not_eq_false' _) h4];rfl
abbrev qah (l:List Ar) (p:Nat) (p':Nat):Prop :=
 ((p:Int)+1=(p':Int)∧True∧True∧True∧l=l∧(l.length:Int)=(l.length:Int)∧True)
set_option maxRecDepth 100000 in
theorem lo_vc (l:List Ar) (n x y:Int) (h:cLook.pre (l,n,x,y)) :
  FewZ l∧bif !q0b Lx.q02 l then ([],false,(1:Int))=q1a Lx.q02 l n (x,y) else True∧bif !q12 n then ([],false,(1:Int))=q1a Lx.q02 l n (x,y) else True∧bif !onB (x,y) then ([],false,(1:Int))=q1a Lx.q02 l n (x,y) else (∃ (p':Nat),p'≤l.length∧((0:Int)=(p':Int)∧True∧True∧True∧l=l∧(l.length:Int)=(l.length:Int)∧True)∧((True∧True)∧(false=inTo l n (x,y) p'∧True)∧(l=l∧True)∧(n=n∧True)∧(x=x∧y=y∧True)∧True)∧(q2e l n (x,y) p'=[]∧True)∧True∧True∧(True∧True∧True∧True)∧True∧True∧True∧True∧(True∧True∧True∧True)∧True)∧∀ (p:Nat),p≤l.length→bif decide ((p:Int)<(l.length:Int)) then (0≤(p:Int)∧(p:Int)<(l.length:Int))∧bif (l.getD (p:Int).toNat ([],(0:Int),[])).2.1==n then ((l.getD (p:Int).toNat ([],(0:Int),[])).2.2.length≤(1000:Nat)∧onB (x,y)=true)∧bif decide ((0:Int)≤q0i (l.getD (p:Int).toNat ([],(0:Int),[])).2.2 (x,y)) then ((q2e l n (x,y) p).length+[(l.getD (p:Int).toNat ([],(0:Int),[])).1].length)*(16:Nat)≤(140737488355328:Nat)∧bif inTo l n (x,y) p then (zFit ((p:Int)+1))∧∃ (p':Nat),p'≤l.length∧l.length-p'<l.length-p∧(qah l p p')∧((True∧True)∧(true=inTo l n (x,y) p'∧True)∧(l=l∧True)∧(n=n∧True)∧(x=x∧y=y∧True)∧True)∧(q2e l n (x,y) p++[(l.getD (p:Int).toNat ([],(0:Int),[])).1]=q2e l n (x,y) p'∧True)∧True∧True∧(True∧True∧True∧True)∧True∧True∧True∧True∧(True∧True∧True∧True)∧True else (zFit ((p:Int)+1))∧∃ (p':Nat),p'≤l.length∧l.length-p'<l.length-p∧(qah l p p')∧((True∧True)∧(decide ((0:Int)<q0i (l.getD (p:Int).toNat ([],(0:Int),[])).2.2 (x,y))=inTo l n (x,y) p'∧True)∧(l=l∧True)∧(n=n∧True)∧(x=x∧y=y∧True)∧True)∧(q2e l n (x,y) p++[(l.getD (p:Int).toNat ([],(0:Int),[])).1]=q2e l n (x,y) p'∧True)∧True∧True∧(True∧True∧True∧True)∧True∧True∧True∧True∧(True∧True∧True∧True)∧True else bif inTo l n (x,y) p then (zFit ((p:Int)+1))∧∃ (p':Nat),p'≤l.length∧l.length-p'<l.length-p∧(qah l p p')∧((True∧True)∧(true=inTo l n (x,y) p'∧True)∧(l=l∧True)∧(n=n∧True)∧(x=x∧y=y∧True)∧True)∧(q2e l n (x,y) p=q2e l n (x,y) p'∧True)∧True∧True∧(True∧True∧True∧True)∧True∧True∧True∧True∧(True∧True∧True∧True)∧True else (zFit ((p:Int)+1))∧∃ (p':Nat),p'≤l.length∧l.length-p'<l.length-p∧(qah l p p')∧((True∧True)∧(decide ((0:Int)<q0i (l.getD (p:Int).toNat ([],(0:Int),[])).2.2 (x,y))=inTo l n (x,y) p'∧True)∧(l=l∧True)∧(n=n∧True)∧(x=x∧y=y∧True)∧True)∧(q2e l n (x,y) p=q2e l n (x,y) p'∧True)∧True∧True∧(True∧True∧True∧True)∧True∧True∧True∧True∧(True∧True∧True∧True)∧True else (zFit ((p:Int)+1))∧∃ (p':Nat),p'≤l.length∧l.length-p'<l.length-p∧(qah l p p')∧((True∧True)∧(inTo l n (x,y) p=inTo l n (x,y) p'∧True)∧(l=l∧True)∧(n=n∧True)∧(x=x∧y=y∧True)∧True)∧(q2e l n (x,y) p=q2e l n (x,y) p'∧True)∧True∧True∧(True∧True∧True∧True)∧True∧True∧True∧True∧(True∧True∧True∧True)∧True else (q2e l n (x,y) p).length≤(1000000:Nat)∧(q3u (q2e l n (x,y) p),inTo l n (x,y) p,(0:Int))=q1a Lx.q02 l n (x,y):=by
 delta qah zFit
 have h:FewZ l:=h;have hl:l.length≤6:=h.1;simp only [and_true,true_and,eq_self,and_self];have hL:q1a Lx.q02 l n (x,y)=if q0b Lx.q02 l&&(q12 n&&onB (x,y)) then (idsZ l n (x,y),inZ l n (x,y),0) else ([],false,1):=rfl
 rw [hL];refine ⟨h,bifP (λh1=>?_) λh1=>bifP (λh2=>?_) λh2=>bifP (λh3=>?_) λh3=>?_⟩
 ·rw [show q0b Lx.q02 l=false from cast (Bool.not_eq_true' _) h1];rfl
 ·rw [show q12 n=false from cast (Bool.not_eq_true' _) h2,Bool.false_and,Bool.and_false];rfl
 ·rw [show onB (x,y)=false from cast (Bool.not_eq_true' _) h3,Bool.and_false,Bool.and_false];rfl
 have h1:q0b Lx.q02 l=true:=cast (Bool.not_eq_false' _) h1;have h2:q12 n=true:=cast (Bool.not_eq_false' _) h2;have h3:onB (x,y)=true:=cast (Bool.not_eq_false' _) h3;rw [h1,h2,h3];refine ⟨⟨0,Nat.zero_le _,rfl,rfl,rfl⟩,λk hk=>bifP (λhb=>?_) λhb=>?_⟩
 rotate_left
 ·have:k=l.length:=by have:=of_decide_eq_false hb;omega
  subst this;refine ⟨by have:=hits_len l n (x,y) l.length;omega,?_⟩
  unfold q2e inTo;rw [List.take_length];rfl
 have hkl:k<l.length:=by have:=of_decide_eq_true hb;omega
 have hm:=h.2 _ (q1v l ar0 k hkl);have e1:=hits_succ l n (x,y) hkl;have e2:=in_succ l n (x,y) hkl;have hh:=hits_len l n (x,y) k;simp only [Int.toNat_natCast,List.length_cons,List.length_nil];dsimp only [ar0] at hm e1 e2;refine ⟨by omega,bifP (λc1=>⟨⟨by omega,trivial⟩,bifP (λc2=>⟨by omega,bifP (λc3=>⟨by omega,k+1,by omega,by omega,by omega,?_,?_⟩) λc3=>⟨by omega,k+1,by omega,by omega,by omega,?_,?_⟩⟩) λc2=>bifP (λc3=>⟨by omega,k+1,by omega,by omega,by omega,?_,?_⟩) λc3=>⟨by omega,k+1,by omega,by omega,by omega,?_,?_⟩⟩) λc1=>⟨by omega,k+1,by omega,by omega,by omega,?_,?_⟩⟩
 all_goals first
  | (rw [e2,c3];rfl)
  | (rw [e2,c3,c1];rfl)
  | (rw [e2,c1,Bool.false_and,Bool.or_false])
  | (rw [e1,c1,c2];rfl)
  | (rw [e1,c1,c2];simp)
  | (rw [e1,c1];simp)
set_option maxRecDepth 100000 in
theorem all_vc (l:List Ar) (n x y:Int) (h:cAll.pre (l,n,x,y)) :
    FewZ l∧((q1a Lx.q02 l n (x,y)).1,(q1a Lx.q02 l n (x,y)).2.2)=allZ Lx.q02 l n (x,y)
     := by
  exact ⟨h,rfl⟩
set_option maxRecDepth 100000 in
theorem one_vc (l:List Ar) (n x y:Int) (h:cOne.pre (l,n,x,y)) :
    FewZ l∧bif (q1a Lx.q02 l n (x,y)).2.2 != (0:Int) then ([],(q1a Lx.q02 l n (x,y)).2.2)=oneZ Lx.q02 l n (x,y) else bif (↑(q1a Lx.q02 l n (x,y)).1.length:Int)==(0 :
    Int) then ([],(10:Int))=oneZ Lx.q02 l n (x,y) else bif decide ((1:Int)<(↑(q1a Lx.q02 l n (x,y)).1.length:Int)) then bif (q1a Lx.q02 l n (x,y)).2.1 then ([],(8 :
    Int))=oneZ Lx.q02 l n (x,y) else ((0:Int)≤(0:Int)∧(0:Int)<(↑(q1a Lx.q02 l n (x,y)).1.length:Int))∧((q1a Lx.q02 l n (x,y)).1.getD (Int.toNat (0:Int)) [],(0 :
    Int))=oneZ Lx.q02 l n (x,y) else ((0:Int)≤(0:Int)∧(0:Int)<(↑(q1a Lx.q02 l n (x,y)).1.length:Int))∧((q1a Lx.q02 l n (x,y)).1.getD (Int.toNat (0:Int)) [],(0 :
    Int))=oneZ Lx.q02 l n (x,y)
     := by
  refine ⟨h,?_⟩;have hO:oneZ Lx.q02 l n (x,y)=(if (q1a Lx.q02 l n (x,y)).2.2 != 0 then ([],(q1a Lx.q02 l n (x,y)).2.2) else match (q1a Lx.q02 l n (x,y)).1 with
    | []=>([],10)
    | i::r=>if !r.isEmpty&&(q1a Lx.q02 l n (x,y)).2.1 then ([],8) else (i,0)):=rfl
  rw [hO];generalize q1a Lx.q02 l n (x,y)=q;obtain ⟨ids,ins,er⟩:=q;dsimp only;refine bifP (λh1=>by rw [h1];rfl) λh1=>?_
  rw [h1]
  match ids with
  | []=>exact rfl
  | [i]=>exact ⟨by simp,rfl⟩
  | i::j::r =>
    refine bifP (λh=>absurd (beq_iff_eq.1 h) (by simp only [List.length_cons];omega)) λ_=>bifP (λ_=>bifP (λhi=>by rw [hi];rfl) λhi=>⟨by simp only [List.length_cons];omega,by rw [hi];rfl⟩) λh=>absurd (of_decide_eq_false h) (by simp only [List.length_cons];omega)
theorem ofK_all (l:List Ar) (n:Int) (f:Ar→Bool) {k:Nat} (hk:k<l.length):(ofK (l.take (k+1)) n).all f=((ofK (l.take k) n).all f&&(!((l.getD k ar0).2.1==n)||f (l.getD k ar0))):=by
 rw [qee l n hk,List.all_append]
 congr 1
 cases (l.getD k ar0).2.1==n
 ·rfl
 ·simp
theorem ofK_any (l:List Ar) (n:Int) (f:Ar→Bool) {k:Nat} (hk:k<l.length):(ofK (l.take (k+1)) n).any f=((ofK (l.take k) n).any f||((l.getD k ar0).2.1==n&&f (l.getD k ar0))):=by
 rw [qee l n hk,List.any_append]
 congr 1
 cases (l.getD k ar0).2.1==n
 ·rfl
 ·simp
theorem qga {l:List Ar} {n:Int} {k:Nat} (hk:k<l.length) (h:((l.getD k ar0).2.1==n)=true):l.getD k ar0∈ofK l n:=List.mem_filter.2 ⟨q1v l ar0 k hk,h⟩
abbrev qd2 (l:List Ar) (n:Int) (p:Nat):Prop :=
 ((l=l∧True)∧(n=n∧True)∧(True∧True)∧(false=false∧True)∧(l=l∧True)∧(n=n∧True)∧((l.getD (p:Int).toNat ([],(0:Int),[])).1=(l.getD (p:Int).toNat ([],(0:Int),[])).1∧(l.getD (p:Int).toNat ([],(0:Int),[])).2.1=(l.getD (p:Int).toNat ([],(0:Int),[])).2.1∧(l.getD (p:Int).toNat ([],(0:Int),[])).2.2=(l.getD (p:Int).toNat ([],(0:Int),[])).2.2∧True)∧((l.getD (p:Int).toNat ([],(0:Int),[])).1=(l.getD (p:Int).toNat ([],(0:Int),[])).1∧(l.getD (p:Int).toNat ([],(0:Int),[])).2.1=(l.getD (p:Int).toNat ([],(0:Int),[])).2.1∧(l.getD (p:Int).toNat ([],(0:Int),[])).2.2=(l.getD (p:Int).toNat ([],(0:Int),[])).2.2∧True)∧(True∧True)∧(false=false∧True)∧(l=l∧True)∧(n=n∧True)∧True)
abbrev qck (l:List Ar) (p:Nat):Prop :=
 (True∧True∧True∧True∧True∧True∧True∧l=l∧(l.length:Int)=(l.length:Int)∧(p:Int)=(p:Int)∧true=true∧True∧True∧true=true∧True)
abbrev qgf (l:List Ar) (n:Int):Prop :=
 ((l=l∧True)∧(n=n∧True)∧(True∧True)∧(false=false∧True)∧(l=l∧True)∧(n=n∧True)∧True)
abbrev qci (l:List Ar) (n:Int) (p:Nat) (p':Nat):Prop :=
 (p'≤l.length∧(ofK (List.take p' l) n).all (apB (l.getD (p:Int).toNat ([],(0:Int),[])))=true)
abbrev qgu (l:List Ar) (p':Nat) (p_1:Nat):Prop :=
 ((p_1:Int)+1=(p':Int)∧True∧True∧True∧l=l∧(l.length:Int)=(l.length:Int)∧True)
set_option maxRecDepth 100000 in
theorem az_vc (l:List Ar) (n:Int) (h:q6t.pre (l,n)) :
  FewZ l∧bif q0b Lx.q02 l then True∧bif q12 n then (∃ (p':Nat),(p'≤l.length∧((ofK (List.take p' l) n).all λ(a:Ar)=>(ofK l n).all (apB a))=true)∧((0:Int)=(p':Int)∧True∧True∧True∧l=l∧(l.length:Int)=(l.length:Int)∧True)∧(qgf l n)∧True∧True∧True∧(True∧True∧true=true∧True)∧True∧True∧True∧True∧(True∧True∧True)∧True)∧∀ (p:Nat),p≤l.length∧((ofK (List.take p l) n).all λ(a:Ar)=>(ofK l n).all (apB a))=true→bif decide ((p:Int)<(l.length:Int)) then (0≤(p:Int)∧(p:Int)<(l.length:Int))∧bif (l.getD (p:Int).toNat ([],(0:Int),[])).2.1==n then (∃ (p':Nat),(qci l n p p')∧((0:Int)=(p':Int)∧True∧True∧True∧l=l∧(l.length:Int)=(l.length:Int)∧True)∧(qd2 l n p)∧True∧True∧True∧(qck l p)∧True∧True∧True∧True∧(True∧True∧True)∧True∧(True∧True∧True)∧True)∧∀ (p_1:Nat),p_1≤l.length∧(ofK (List.take p_1 l) n).all (apB (l.getD (p:Int).toNat ([],(0:Int),[])))=true→bif decide ((p_1:Int)<(l.length:Int)) then (0≤(p_1:Int)∧(p_1:Int)<(l.length:Int))∧bif (l.getD (p_1:Int).toNat ([],(0:Int),[])).2.1==n then bif (l.getD (p:Int).toNat ([],(0:Int),[])).1==(l.getD (p_1:Int).toNat ([],(0:Int),[])).1 then (zFit ((p_1:Int)+1))∧∃ (p':Nat),(qci l n p p')∧l.length-p'<l.length-p_1∧(qgu l p' p_1)∧(qd2 l n p)∧True∧True∧True∧(qck l p)∧True∧True∧True∧True∧(True∧True∧True)∧True∧(True∧True∧True)∧True else ((l.getD (p:Int).toNat ([],(0:Int),[])).2.2.length≤(12:Nat)∧(l.getD (p_1:Int).toNat ([],(0:Int),[])).2.2.length≤(12:Nat))∧bif !q2t (l.getD (p:Int).toNat ([],(0:Int),[])).2.2 (l.getD (p_1:Int).toNat ([],(0:Int),[])).2.2 then false=q2f Lx.q02 l n else (zFit ((p_1:Int)+1))∧∃ (p':Nat),(qci l n p p')∧l.length-p'<l.length-p_1∧(qgu l p' p_1)∧(qd2 l n p)∧True∧True∧True∧(qck l p)∧True∧True∧True∧True∧(True∧True∧True)∧True∧(True∧True∧True)∧True else (zFit ((p_1:Int)+1))∧∃ (p':Nat),(qci l n p p')∧l.length-p'<l.length-p_1∧(qgu l p' p_1)∧(qd2 l n p)∧True∧True∧True∧(qck l p)∧True∧True∧True∧True∧(True∧True∧True)∧True∧(True∧True∧True)∧True else (zFit ((p:Int)+1))∧∃ (p':Nat),(p'≤l.length∧((ofK (List.take p' l) n).all λ(a:Ar)=>(ofK l n).all (apB a))=true)∧l.length-p'<l.length-p∧((p:Int)+1=(p':Int)∧True∧True∧True∧l=l∧(l.length:Int)=(l.length:Int)∧True)∧(qgf l n)∧True∧True∧True∧(True∧True∧true=true∧True)∧True∧True∧True∧True∧(True∧True∧True)∧True else (zFit ((p:Int)+1))∧∃ (p':Nat),(p'≤l.length∧((ofK (List.take p' l) n).all λ(a:Ar)=>(ofK l n).all (apB a))=true)∧l.length-p'<l.length-p∧((p:Int)+1=(p':Int)∧True∧True∧True∧l=l∧(l.length:Int)=(l.length:Int)∧True)∧(qgf l n)∧True∧True∧True∧(True∧True∧true=true∧True)∧True∧True∧True∧True∧(True∧True∧True)∧True else true=q2f Lx.q02 l n else false=q2f Lx.q02 l n else false=q2f Lx.q02 l n:=by
 delta qd2 qck qgf qci qgu zFit
 have h:FewZ l:=h;have hl:l.length≤6:=h.1;simp only [and_true,true_and,eq_self,and_self];have hA:q2f Lx.q02 l n=(q0b Lx.q02 l&&(q12 n&&(ofK l n).all λa=>(ofK l n).all (apB a))):=rfl
 rw [hA];refine ⟨h,bifP (λh1=>bifP (λh2=>⟨⟨0,⟨Nat.zero_le _,rfl⟩,rfl⟩,?_⟩) λh2=>by rw [h1,h2];rfl) λh1=>by rw [h1];rfl⟩
 rw [h1,h2,Bool.true_and,Bool.true_and];rintro k ⟨hk,ha⟩;refine bifP (λhb=>?_) λhb=>?_
 rotate_left
 ·have:k=l.length:=by have:=of_decide_eq_false hb;omega
  subst this;rw [List.take_length] at ha;exact ha.symm
 have hkl:k<l.length:=by have:=of_decide_eq_true hb;omega
 have hm:=h.2 _ (q1v l ar0 k hkl)
 try simp only [Int.toNat_natCast]
 have e1:=ofK_all l n (λa=>(ofK l n).all (apB a)) hkl
 refine ⟨by omega,bifP (λc1=>⟨⟨0,⟨Nat.zero_le _,rfl⟩,rfl⟩,?_⟩) λc1=>⟨by omega,k+1,⟨by omega,by rw [e1,ha,c1];rfl⟩,by omega,by omega⟩⟩
 rintro m ⟨hm1,hma⟩;refine bifP (λhb2=>?_) λhb2=>?_
 rotate_left
 ·have:m=l.length:=by have:=of_decide_eq_false hb2;omega
  subst this;rw [List.take_length] at hma;exact ⟨by omega,k+1,⟨by omega,by rw [e1,ha,c1];(try dsimp only);rw [hma];rfl⟩,by omega,by omega⟩
 have hml:m<l.length:=by have:=of_decide_eq_true hb2;omega
 have hm':=h.2 _ (q1v l ar0 m hml)
 try simp only [Int.toNat_natCast]
 have e2:=ofK_all l n (apB (l.getD k ar0)) hml;refine ⟨by omega,bifP (λc2=>bifP (λc3=>⟨by omega,m+1,⟨by omega,?_⟩,by omega,by omega⟩) λc3=>⟨⟨hm.2,hm'.2⟩,bifP (λc4=>?_) λc4=>⟨by omega,m+1,⟨by omega,?_⟩,by omega,by omega⟩⟩) λc2=>⟨by omega,m+1,⟨by omega,?_⟩,by omega,by omega⟩⟩
 ·show (ofK (l.take (m+1)) n).all (apB (l.getD k ar0))=true
  have:apB (l.getD k ar0) (l.getD m ar0)=true:=by unfold apB;rw [show ((l.getD k ar0).1==(l.getD m ar0).1)=true from c3];rfl
  rw [e2,show (ofK (l.take m) n).all (apB (l.getD k ar0))=true from hma,this];simp
 ·symm
  rw [← Bool.not_eq_true,List.all_eq_true];intro hh;have:=List.all_eq_true.1 (hh _ (qga hkl c1)) _ (qga hml c2);unfold apB at this;rw [show ((l.getD k ar0).1==(l.getD m ar0).1)=false from c3,Bool.false_or,show q2t (l.getD k ar0).2.2 (l.getD m ar0).2.2=false from cast (Bool.not_eq_true' _) c4] at this;cases this
 ·show (ofK (l.take (m+1)) n).all (apB (l.getD k ar0))=true
  have:apB (l.getD k ar0) (l.getD m ar0)=true:=by unfold apB;rw [show q2t (l.getD k ar0).2.2 (l.getD m ar0).2.2=true from cast (Bool.not_eq_false' _) c4,Bool.or_true]
  rw [e2,show (ofK (l.take m) n).all (apB (l.getD k ar0))=true from hma,this];simp
 ·show (ofK (l.take (m+1)) n).all (apB (l.getD k ar0))=true
  rw [e2,show (ofK (l.take m) n).all (apB (l.getD k ar0))=true from hma,show ((l.getD m ar0).2.1==n)=false from c2];rfl
abbrev qgz (i:Int) (l:List Ar) (n:Int) (p:Nat):Prop :=
 ((l=l∧True)∧(i=i∧True)∧(True∧True)∧(false=false∧True)∧(l=l∧True)∧(n=n∧True)∧((l.getD (p:Int).toNat ([],(0:Int),[])).1=(l.getD (p:Int).toNat ([],(0:Int),[])).1∧(l.getD (p:Int).toNat ([],(0:Int),[])).2.1=(l.getD (p:Int).toNat ([],(0:Int),[])).2.1∧(l.getD (p:Int).toNat ([],(0:Int),[])).2.2=(l.getD (p:Int).toNat ([],(0:Int),[])).2.2∧True)∧((l.getD (p:Int).toNat ([],(0:Int),[])).1=(l.getD (p:Int).toNat ([],(0:Int),[])).1∧(l.getD (p:Int).toNat ([],(0:Int),[])).2.1=(l.getD (p:Int).toNat ([],(0:Int),[])).2.1∧(l.getD (p:Int).toNat ([],(0:Int),[])).2.2=(l.getD (p:Int).toNat ([],(0:Int),[])).2.2∧True)∧(True∧True)∧(false=false∧True)∧(l=l∧True)∧(i=i∧True)∧True)
abbrev qgy (l:List Ar) (p:Nat):Prop :=
 (True∧True∧True∧True∧True∧True∧True∧l=l∧(l.length:Int)=(l.length:Int)∧(p:Int)=(p:Int)∧true=true∧True∧True∧true=true∧True)
abbrev qgj (i:Int) (l:List Ar) (n:Int):Prop :=
 ((l=l∧True)∧(i=i∧True)∧(True∧True)∧(false=false∧True)∧(l=l∧True)∧(n=n∧True)∧True)
abbrev qge (i:Int) (l:List Ar) (p:Nat) (p':Nat):Prop :=
 (p'≤l.length∧((ofK (List.take p' l) i).any λ(b:Ar)=>q0j (l.getD (p:Int).toNat ([],(0:Int),[])).2.2 b.2.2)=false)
set_option maxRecDepth 100000 in
theorem nz_vc (l:List Ar) (n i:Int) (h:q8p.pre (l,n,i)) :
  FewZ l∧bif q0b Lx.q02 l then True∧bif q12 n then True∧bif q12 i then (∃ (p':Nat),(p'≤l.length∧((ofK (List.take p' l) n).all λ(a:Ar)=>(ofK l i).any λ(b:Ar)=>q0j a.2.2 b.2.2)=true)∧((0:Int)=(p':Int)∧True∧True∧True∧l=l∧(l.length:Int)=(l.length:Int)∧True)∧(qgj i l n)∧True∧True∧True∧(True∧True∧true=true∧True)∧True∧True∧True∧True∧(True∧True∧True)∧True)∧∀ (p:Nat),p≤l.length∧((ofK (List.take p l) n).all λ(a:Ar)=>(ofK l i).any λ(b:Ar)=>q0j a.2.2 b.2.2)=true→bif decide ((p:Int)<(l.length:Int)) then (0≤(p:Int)∧(p:Int)<(l.length:Int))∧bif (l.getD (p:Int).toNat ([],(0:Int),[])).2.1==n then (∃ (p':Nat),(qge i l p p')∧((0:Int)=(p':Int)∧True∧True∧True∧l=l∧(l.length:Int)=(l.length:Int)∧True)∧(qgz i l n p)∧True∧True∧True∧(qgy l p)∧True∧True∧True∧True∧(True∧True∧True)∧True∧(True∧True∧True)∧True)∧∀ (p_1:Nat),p_1≤l.length∧((ofK (List.take p_1 l) i).any λ(b:Ar)=>q0j (l.getD (p:Int).toNat ([],(0:Int),[])).2.2 b.2.2)=false→bif decide ((p_1:Int)<(l.length:Int)) then (0≤(p_1:Int)∧(p_1:Int)<(l.length:Int))∧bif (l.getD (p_1:Int).toNat ([],(0:Int),[])).2.1==i then ((l.getD (p:Int).toNat ([],(0:Int),[])).2.2.length≤(12:Nat)∧(l.getD (p_1:Int).toNat ([],(0:Int),[])).2.2.length≤(12:Nat))∧bif !!q0j (l.getD (p:Int).toNat ([],(0:Int),[])).2.2 (l.getD (p_1:Int).toNat ([],(0:Int),[])).2.2 then (zFit ((p:Int)+1))∧∃ (p':Nat),(p'≤l.length∧((ofK (List.take p' l) n).all λ(a:Ar)=>(ofK l i).any λ(b:Ar)=>q0j a.2.2 b.2.2)=true)∧l.length-p'<l.length-p∧((p:Int)+1=(p':Int)∧True∧True∧True∧l=l∧(l.length:Int)=(l.length:Int)∧True)∧(qgj i l n)∧True∧True∧True∧(True∧True∧true=true∧True)∧True∧True∧True∧True∧(True∧True∧True)∧True else (zFit ((p_1:Int)+1))∧∃ (p':Nat),(qge i l p p')∧l.length-p'<l.length-p_1∧((p_1:Int)+1=(p':Int)∧True∧True∧True∧l=l∧(l.length:Int)=(l.length:Int)∧True)∧(qgz i l n p)∧True∧True∧True∧(qgy l p)∧True∧True∧True∧True∧(True∧True∧True)∧True∧(True∧True∧True)∧True else (zFit ((p_1:Int)+1))∧∃ (p':Nat),(qge i l p p')∧l.length-p'<l.length-p_1∧((p_1:Int)+1=(p':Int)∧True∧True∧True∧l=l∧(l.length:Int)=(l.length:Int)∧True)∧(qgz i l n p)∧True∧True∧True∧(qgy l p)∧True∧True∧True∧True∧(True∧True∧True)∧True∧(True∧True∧True)∧True else false=q0g Lx.q02 l n i else (zFit ((p:Int)+1))∧∃ (p':Nat),(p'≤l.length∧((ofK (List.take p' l) n).all λ(a:Ar)=>(ofK l i).any λ(b:Ar)=>q0j a.2.2 b.2.2)=true)∧l.length-p'<l.length-p∧((p:Int)+1=(p':Int)∧True∧True∧True∧l=l∧(l.length:Int)=(l.length:Int)∧True)∧(qgj i l n)∧True∧True∧True∧(True∧True∧true=true∧True)∧True∧True∧True∧True∧(True∧True∧True)∧True else true=q0g Lx.q02 l n i else false=q0g Lx.q02 l n i else false=q0g Lx.q02 l n i else false=q0g Lx.q02 l n i:=by
 delta qgz qgy qgj qge zFit
 have h:FewZ l:=h;have hl:l.length≤6:=h.1;simp only [and_true,true_and,eq_self,and_self];have hA:q0g Lx.q02 l n i=(q0b Lx.q02 l&&(q12 n&&(q12 i&&(ofK l n).all λa=>(ofK l i).any λb=>q0j a.2.2 b.2.2))):=rfl
 rw [hA];refine ⟨h,bifP (λh1=>bifP (λh2=>bifP (λh3=>⟨⟨0,⟨Nat.zero_le _,rfl⟩,rfl⟩,?_⟩) λh3=>by rw [h1,h2,h3];rfl) λh2=>by rw [h1,h2];rfl) λh1=>by rw [h1];rfl⟩
 rw [h1,h2,h3,Bool.true_and,Bool.true_and,Bool.true_and];rintro k ⟨hk,ha⟩;refine bifP (λhb=>?_) λhb=>?_
 rotate_left
 ·have:k=l.length:=by have:=of_decide_eq_false hb;omega
  subst this;rw [List.take_length] at ha;exact ha.symm
 have hkl:k<l.length:=by have:=of_decide_eq_true hb;omega
 have hm:=h.2 _ (q1v l ar0 k hkl)
 try simp only [Int.toNat_natCast]
 have e1:=ofK_all l n (λa=>(ofK l i).any λb=>q0j a.2.2 b.2.2) hkl
 refine ⟨by omega,bifP (λc1=>⟨⟨0,⟨Nat.zero_le _,rfl⟩,rfl⟩,?_⟩) λc1=>⟨by omega,k+1,⟨by omega,by rw [e1,ha,c1];rfl⟩,by omega,by omega⟩⟩
 rintro m ⟨hm1,hma⟩;refine bifP (λhb2=>?_) λhb2=>?_
 rotate_left
 ·have:m=l.length:=by have:=of_decide_eq_false hb2;omega
  subst this;rw [List.take_length] at hma
  symm
  rw [← Bool.not_eq_true,List.all_eq_true];intro hh;have:=hh _ (qga hkl c1);rw [show ((ofK l i).any λb=>q0j (l.getD k ar0).2.2 b.2.2)=false from hma] at this
  cases this
 have hml:m<l.length:=by have:=of_decide_eq_true hb2;omega
 have hm':=h.2 _ (q1v l ar0 m hml)
 try simp only [Bool.not_not]
 have e2:=ofK_any l i (λb=>q0j (l.getD k ar0).2.2 b.2.2) hml
 refine ⟨by omega,bifP (λc2=>⟨⟨hm.2,hm'.2⟩,bifP (λc4=>⟨by omega,k+1,⟨by omega,?_⟩,by omega,by omega⟩) λc4=>⟨by omega,m+1,⟨by omega,?_⟩,by omega,by omega⟩⟩) λc2=>⟨by omega,m+1,⟨by omega,?_⟩,by omega,by omega⟩⟩
 ·show (ofK (l.take (k+1)) n).all (λa=>(ofK l i).any λb=>q0j a.2.2 b.2.2)=true
  have:((ofK l i).any λb=>q0j (l.getD k ar0).2.2 b.2.2)=true:=List.any_eq_true.2 ⟨_,qga hml c2,c4⟩
  rw [e1,ha];try dsimp only
  rw [this];simp
 ·show ((ofK (l.take (m+1)) i).any λb=>q0j (l.getD k ar0).2.2 b.2.2)=false
  rw [e2,show ((ofK (l.take m) i).any λb=>q0j (l.getD k ar0).2.2 b.2.2)=false from hma];try dsimp only
  rw [show q0j (l.getD k ar0).2.2 (l.getD m ar0).2.2=false from c4,Bool.and_false];rfl
 ·show ((ofK (l.take (m+1)) i).any λb=>q0j (l.getD k ar0).2.2 b.2.2)=false
  rw [e2,show ((ofK (l.take m) i).any λb=>q0j (l.getD k ar0).2.2 b.2.2)=false from hma,show ((l.getD m ar0).2.1==i)=false from c2];rfl
open Go.Lib Go.Sort
theorem one_arg {κ:Cx} {w:World} {a:Comp} {vs:List Value} (h:q09 κ w [a] vs):∃ x,vs=[x]∧a.Rep κ w x:=by
 match vs,h with
 | [x],h =>
  obtain ⟨u,hu,hr⟩:=h.2 0 _ rfl;injection hu with hu;have hu:x=u:=hu;subst hu;exact ⟨_,rfl,hr⟩
theorem tok_at (l:List Lx.Tok) (i:Nat) (t:Lx.Tok) (h:l[i]? = some t) (r:Nat) (hr:r<4):(q4g l)[i*4+r]? = t.cells[r]? := by
 induction l generalizing i with
 | nil=>simp at h
 | cons x l ih =>
  have e:q4g (x::l)=x.cells++q4g l:=rfl;have hl:x.cells.length=4:=rfl;rw [e];cases i with
  | zero =>
   injection h with h;subst h;rw [Nat.zero_mul,Nat.zero_add,List.getElem?_append_left (by omega)]
  | succ i =>
   rw [List.getElem?_append_right (by omega),hl,show (i+1)*4+r-4=i*4+r by omega]
   exact ih i h
section
variable {S:Nat→Prop} {w:World} {v:Value}
theorem tok_row {base:Nat} {l:List Lx.Tok} (h:TokRow w base v l) (hS:∀ g,base≤g→g<w.heap.size→S g):Kd.Rep w S (.sl kTok) (l.map tokP) v:=by
 have hlen:(l.map tokP).length=l.length:=List.length_map ..;rcases h.2 with ⟨rfl,h0⟩ | ⟨g,cap,cur,rfl,hb,hg,hc,_,hsz,ht⟩
 ·refine ⟨none,0,by rw [hlen,h0],by rw [hlen,h0];exact Nat.le_refl _,λhl=>?_⟩
  rw [hlen] at hl;omega
 ·have hlt:g<w.heap.size:=by
   rcases Nat.lt_or_ge g w.heap.size with h' | h'
   ·exact h'
   ·rw [Array.getElem?_eq_none h'] at hg;cases hg
  refine ⟨_,cap,by rw [hlen],by rw [hlen];exact hc,λhl=>⟨g,0,rfl,hlt,hS g hb hlt,λi x hx=>?_⟩⟩
  have hx:(l.map tokP)[i]? = some x:=hx;rw [List.getElem?_map] at hx;cases ht':l[i]? with
  | none=>rw [ht'] at hx;cases hx
  | some t =>
   rw [ht'] at hx;injection hx with hx;subst hx;have hil:i<l.length:=(List.getElem?_eq_some_iff.1 ht').1;have key:∀ r u,r<4→t.cells[r]? = some u→w.cell? ⟨g,0+i*4+r,none⟩=some u:=λr u hr hu=>by
    have h1:=tok_at l i t ht' r hr;rw [hu,← ht,List.getElem?_take,if_pos (by omega),Array.getElem?_toList] at h1
    rw [Nat.zero_add];unfold World.cell?;simp [hg,h1]
   exact ⟨⟨_,key 0 _ (by omega) rfl,rfl⟩,⟨_,key 1 _ (by omega) rfl,rfl⟩,⟨_,key 2 _ (by omega) rfl,rfl⟩,⟨_,key 3 _ (by omega) rfl,rfl⟩⟩
end
theorem lex_holds:cLex.Holds Tryz.prog:=by
 refine ⟨⟨⟨_,Tryz.func54,by kernel_rfl,by kernel_rfl⟩,λF' hF p r hr=>by injection hF with hF;subst hF;exact hr⟩,λs0 vs w S hS hp hvs=>?_⟩
 obtain ⟨v,rfl,hv⟩:=one_arg hvs;obtain ⟨s,rfl⟩:∃ s:List UInt8,s=s0:=⟨s0,rfl⟩;obtain rfl:v=.string (bs s):=hv;have hp:s.length≤1000:=hp;have hsz:(bs s).size≤9223372036854775807:=by rw [bs_size];omega
 refine (lex_any (bs s) w hsz).mono ?_;rintro e w' ⟨v,rfl,hrow,hbl⟩;have hrow:TokRow w' w.heap.size v (Lx.lex s).1:=hrow;refine ⟨lexP s,_,rfl,rfl,⟨_,rfl,rfl,?_⟩,hbl⟩;have hr:=tok_row (S:=λg=>S g∨(w.heap.size≤g∧g<w'.heap.size)) hrow (λg h1 h2=>.inr ⟨h1,h2⟩)
 intro i x hx
 match i,hx with
 | 0,hx=>injection hx with hx;subst hx;exact ⟨_,rfl,hr⟩
 | 1,hx=>injection hx with hx;subst hx;exact ⟨_,rfl,rfl⟩
 | 2,hx=>injection hx with hx;subst hx;exact ⟨_,rfl,rfl⟩
set_option maxRecDepth 100000 in
theorem name_holds:cIsName.Holds Tryz.prog:=by
 refine q0y (cons:=[cLex]) Tryz.func33 (by kernel_rfl) (by kernel_rfl) mixed (by kernel_rfl) (all_cons lex_holds all_nil) (λ_=>[]) λp hp=>?_
 refine cast ?_ (name_vc p hp)
 kernel_rfl
set_option maxRecDepth 100000 in
theorem qdz:cKnown.Holds Tryz.prog:=by
 refine q0y (cons:=[]) Tryz.func34 (by kernel_rfl) (by kernel_rfl) mixed (by kernel_rfl) all_nil (λ_=>[]) λp hp=>?_
 refine cast ?_ (kn_vc p)
 kernel_rfl
set_option maxRecDepth 100000 in
theorem q7n:q8j.Holds Tryz.prog:=by
 refine q0y (cons:=[cIsName,cKnown,cRing]) Tryz.func16 (by kernel_rfl) (by kernel_rfl) mixed (by kernel_rfl) (all_cons name_holds (all_cons qdz (all_cons qe2 all_nil))) (λp=>anZV p) λp hp=>?_
 refine cast ?_ (zv_vc p hp)
 kernel_rfl
theorem row_grown {w:World} {base:Nat} {e:TypeId} {v:Value} {n:Nat} {cells:List Value} (os:Array Obj) (h:w.ownsRow base e 1 v n cells):(grow w os).ownsRow base e 1 v n cells:=by
 rcases h with ⟨hl,h⟩;refine ⟨hl,?_⟩;rcases h with ⟨e0,h0⟩ | ⟨g,cap,cur,hv,hb,hg,hr⟩
 ·exact .inl ⟨e0,h0⟩
 ·refine .inr ⟨g,cap,cur,hv,hb,?_,hr⟩
  have hlt:g<w.heap.size:=by
   rcases Nat.lt_or_ge g w.heap.size with h' | h'
   ·exact h'
   ·rw [Array.getElem?_eq_none h'] at hg;cases hg
  show (w.heap++os)[g]? = _;rw [Array.getElem?_append_left hlt];exact hg
theorem heap_sorted {α:Type} [Inhabited α] (enc:α→Value) (w:World) (blk off m:Nat) (dk:Array α) (os:Array Obj) {g:Nat} (hg:g<w.heap.size) (hne:g≠blk):(sortWorld enc w blk off m dk os).heap[g]? = w.heap[g]? := by
 have:blk≠g:=λe=>hne e.symm
 simp [sortWorld,grow,putRow,mapBlock,Sort.ahead,Array.getElem?_append,Array.getElem_modify,hg,this]
theorem size_sorted {α:Type} [Inhabited α] (enc:α→Value) (w:World) (blk off m:Nat) (dk:Array α) (os:Array Obj):w.heap.size≤(sortWorld enc w blk off m dk os).heap.size:=by
 simp [sortWorld,grow,putRow,mapBlock,Sort.ahead]
theorem str_cells {w:World} {S:Nat→Prop}:∀ {xs:List Str} {cells:List Value},cells.length=xs.length→q0a (Cx.of S) w kStr xs cells→cells=xs.map encStr
 | [],cells,hl,_=>List.eq_nil_of_length_eq_zero hl
 | x::xs,[],hl,_=>by cases hl
 | x::xs,u::cells,hl,h=>by
  obtain ⟨u',hu,hr⟩:=h 0 x rfl 0 ⟨Kd.str,x⟩ rfl;have hu:some u=some u':=hu;injection hu with hu;have hr:u'=.string (bs x):=hr;rw [List.map_cons,hu,hr,str_cells (xs:=xs) (cells:=cells) (by injection hl) λi y hy j m hm=>by
   obtain ⟨v,hv,h2⟩:=h (i+1) y hy j m hm;refine ⟨v,?_,h2⟩;have e:(i+1)*kStr.size+j=(i*kStr.size+j)+1:=by show (i+1)*1+j=i*1+j+1;omega
   rw [e] at hv;exact hv]
  rfl
theorem str_row {w:World} {S:Nat→Prop} (xs:List Str):q0a (Cx.of S) w kStr xs (xs.map encStr):=by
 intro i x hx j m hm
 match j,hm with
 | 0,hm =>
  injection hm with hm;subst hm;refine ⟨.string (bs x),?_,rfl⟩;have e:i*kStr.size+0=i:=by show i*1+0=i;omega
  rw [e,List.getElem?_map,hx];rfl
theorem sortS_holds:oSortS.Holds Tryz.prog:=by
 refine ⟨⟨_,Tryz.func51,by kernel_rfl,by kernel_rfl⟩,λxs p b v cells vs fvs w n0 S hn0 hS hvS hown hcells hpre hvs hfa _=>?_⟩
 have hfa:fvs=[]:=hfa;subst hfa;obtain ⟨xs,rfl⟩:∃ q:List Str,q=xs:=⟨xs,rfl⟩;have hp1:xs.length≤1000000:=hpre;have hvs2:vs=[]:=List.eq_nil_of_length_eq_zero hvs.1;subst hvs2;have hown1:w.ownsRow n0 9 1 v xs.length cells:=hown;have hcl:cells.length=xs.length:=by have:=hown1.1;omega
 have hcs:cells=xs.map encStr:=str_cells hcl hcells;by_cases hnil:v=.slice none 0 0
 ·subst hnil
  have h0:xs.length=0:=by
   rcases hown1.2 with ⟨_,h0⟩ | ⟨g,cap,cur,h,_⟩
   ·exact h0
   ·cases h
  have hxs:=List.eq_nil_of_length_eq_zero h0;subst hxs;refine (Tryz.slices_Sort_string_none none 0 w).mono ?_;rintro e w' ⟨rfl,rfl⟩;have e0:q3u ([]:List Str)=[]:=List.mergeSort_nil;refine ⟨⟨rfl,rfl,rfl,Nat.le_refl _,λ_ _ _=>rfl⟩,_,cells,rfl,?_,?_,(λh=>by cases h),λ_=>rfl⟩
  ·show World.ownsRow _ _ _ _ _ (q3u []).length _
   rw [e0];exact hown1
  ·show q0a (Cx.of S) _ kStr (q3u []) cells
   rw [e0];exact hcells
 ·rw [hcs] at hown1
  obtain ⟨g,cap,rfl,hg1,hg2,hc1,hc2,_,hH⟩:=Lib.holds_of_ownsRow hown1 hnil;refine (Tryz.slices_Sort_string g 0 cap xs w hH hg2 (by omega)).mono ?_
  rintro e w' ⟨rfl,n,os,rfl⟩;have hlen:(q3u xs).length=xs.length:=List.length_mergeSort _;have hrow:=ownsRow_putRow (q:=n) (k:=xs.length) (ys:=q3u xs) hown1 hlen (Nat.le_refl _);have hrow:=row_grown os hrow;have htk:(q3u xs).take xs.length=q3u xs:=List.take_of_length_le (by omega)
  rw [htk] at hrow;refine ⟨?_,_,(q3u xs).map encStr,rfl,?_,?_,(λh=>by cases h),λ_=>rfl⟩
  ·refine ⟨rfl,rfl,rfl,size_sorted ..,λk hk hne=>?_⟩
   exact heap_sorted _ _ _ _ _ _ _ hk (λe=>hne (by rw [e];rfl))
  ·show World.ownsRow _ _ _ _ _ (q3u xs).length _
   rw [hlen];exact hrow
  ·exact str_row _
theorem kitLo_ok:kitLo.Ok Tryz.prog where
 cons:=all_cons q7n (all_cons qdz (all_cons qec (all_cons qeu all_nil)))
 ns:=all_nil
 os:=all_cons sortS_holds all_nil
 fcs:=all_nil
 rcs:=all_nil
 inls:=q0f.more Tryz.func50 (by kernel_rfl) (by kernel_rfl) (q0f.more Tryz.func71 (by kernel_rfl) (by kernel_rfl) q0f.nil)
set_option maxHeartbeats 4000000 in
set_option maxRecDepth 100000000 in
theorem qj6:cLook.Holds Tryz.prog:=by
 refine q5i (T:=kitLo) (λp=>anLoI p.1 p.2.1 p.2.2) Tryz.func29 (by kernel_rfl) (by kernel_rfl) mixed (by kernel_rfl) kitLo_ok (λ_=>[]) λp hp=>?_
 obtain ⟨l,n,x,y⟩:=p;refine cast ?_ (lo_vc l n x y hp)
 kernel_rfl
set_option maxRecDepth 100000 in
theorem qjx:cAll.Holds Tryz.prog:=by
 refine q0y (cons:=[cLook]) Tryz.func12 (by kernel_rfl) (by kernel_rfl) mixed (by kernel_rfl) (all_cons qj6 all_nil) (λ_=>[]) λp hp=>?_
 obtain ⟨l,n,x,y⟩:=p;refine cast ?_ (all_vc l n x y hp)
 kernel_rfl
set_option maxRecDepth 100000 in
theorem qdm:cOne.Holds Tryz.prog:=by
 refine q0y (cons:=[cLook]) Tryz.func14 (by kernel_rfl) (by kernel_rfl) mixed (by kernel_rfl) (all_cons qj6 all_nil) (λ_=>[]) λp hp=>?_
 obtain ⟨l,n,x,y⟩:=p;refine cast ?_ (one_vc l n x y hp)
 kernel_rfl
theorem kitAz_ok:kitAz.Ok Tryz.prog where
 cons:=all_cons q7n (all_cons qdz (all_cons apartP_holds all_nil))
 ns:=all_nil
 os:=all_nil
 fcs:=all_nil
 rcs:=all_nil
 inls:=q0f.more Tryz.func50 (by kernel_rfl) (by kernel_rfl) (q0f.more Tryz.func71 (by kernel_rfl) (by kernel_rfl) (q0f.more Tryz.func38 (by kernel_rfl) (by kernel_rfl) (q0f.more Tryz.func39 (by kernel_rfl) (by kernel_rfl) (q0f.more Tryz.func40 (by kernel_rfl) (by kernel_rfl) q0f.nil))))
theorem kitNz_ok:kitNz.Ok Tryz.prog where
 cons:=all_cons q7n (all_cons qdz (all_cons within_holds all_nil))
 ns:=all_nil
 os:=all_nil
 fcs:=all_nil
 rcs:=all_nil
 inls:=q0f.more Tryz.func50 (by kernel_rfl) (by kernel_rfl) (q0f.more Tryz.func71 (by kernel_rfl) (by kernel_rfl) (q0f.more Tryz.func38 (by kernel_rfl) (by kernel_rfl) (q0f.more Tryz.func43 (by kernel_rfl) (by kernel_rfl) (q0f.more Tryz.func44 (by kernel_rfl) (by kernel_rfl) q0f.nil))))
set_option maxHeartbeats 4000000 in
set_option maxRecDepth 100000000 in
theorem qb7:q6t.Holds Tryz.prog:=by
 refine q5i (T:=kitAz) (λp=>anAz p.1 p.2) Tryz.func19 (by kernel_rfl) (by kernel_rfl) mixed (by kernel_rfl) kitAz_ok (λ_=>[]) λp hp=>?_
 obtain ⟨l,n⟩:=p;refine cast ?_ (az_vc l n hp)
 kernel_rfl
set_option maxHeartbeats 4000000 in
set_option maxRecDepth 100000000 in
theorem qeq:q8p.Holds Tryz.prog:=by
 refine q5i (T:=kitNz) (λp=>anNz p.1 p.2.1 p.2.2) Tryz.func21 (by kernel_rfl) (by kernel_rfl) mixed (by kernel_rfl) kitNz_ok (λ_=>[]) λp hp=>?_
 obtain ⟨l,n,i⟩:=p;refine cast ?_ (nz_vc l n i hp)
 kernel_rfl
end Go.Proofs.YtnpkpehlncnkgaaGreatDoor
namespace Go.Proofs.YtnpkpehlncnkgaaGreatDoor
open Go.RowKit R Geo.Zn Zl
def boxL (p:Int×Int×Int×Int):List P2:=[(p.1,p.2.1),(p.1+p.2.2.1,p.2.1),(p.1+p.2.2.1,p.2.1+p.2.2.2),(p.1,p.2.1+p.2.2.2)]
def cBox:Con:=.of 27 [q0s,q0s,q0s,q0s] [q39] (λp=>(0≤p.1∧p.1≤100)∧(0≤p.2.1∧p.2.1≤100)∧(0≤p.2.2.1∧p.2.2.1≤100)∧(0≤p.2.2.2∧p.2.2.2≤100)) boxL
def q3x (l:List Ar) (n:Int):Bool:=l.all (λa=>decide (a.2.2.length≤12)&&decide (a.1.length≤100))&&decide ((l.length:Int)≤n)
def cFewR:Con:=.of 28 [qa8,q0s] [q10] (λp=>p.2=6) (λp=>q3x p.1 p.2)
def anFew (l:List Ar):List (Nat×Ann) :=
 [annX 0 Nat (λst k=>st.hd { live:=[0,1],sav:=[],box:=[] } [(5,R.int .i64 k)] [] [] [] none) (λ_ k=>k≤6∧k≤l.length∧(l.take k).all (λa=>decide (a.2.2.length≤12)&&decide (a.1.length≤100))=true) (λ_ k=>l.length-k)]
def cFewZ:Con:=.of 11 [qa8] [q10] (λ_=>True) (λl=>q3x l 6)
def cTexts:Con:=.of 18 [ckStrs,ckStrs] [q10] (λp=>List.length p.1≤1000000) (λp=>(p.1:List Str)==p.2)
def anTexts (a b:List Str):List (Nat×Ann) :=
 [annX 0 Nat (λst k=>st.hd { live:=[0,1],sav:=[],box:=[] } [(5,R.int .i64 k)] [] [] [] none) (λ_ k=>k≤a.length∧a.take k=b.take k) (λ_ k=>a.length-k)]
def cHas:Con:=.of 26 [ckStrs,ckStr1] [q10] (λp=>List.length p.1≤1000000) (λp=>(p.1:List Str).contains p.2)
def anHas (l:List Str) (s:Str):List (Nat×Ann) :=
 [annX 0 Nat (λst k=>st.hd { live:=[0,1],sav:=[],box:=[] } [(5,R.int .i64 k)] [] [] [] none) (λ_ k=>k≤l.length∧(l.take k).contains s=false) (λ_ k=>l.length-k)]
def cKinds:Con:=.of 23 [q0s] [q10] (λ_=>True) q12
def cHead:Con:=.of 10 [] [q10] (λ_=>True) (λ_=>true)
def consHd:List Con:=[cBox,cOne.lent,cAll,cTexts,q6t.lent,q8p.lent]
abbrev exA:List Ar:=[([(97:UInt8)],(1:Int),boxL (0,0,4,4)),([(98:UInt8)],(1:Int),boxL (4,0,4,4)),([(100:UInt8)],(2:Int),boxL (1,1,2,2))]
abbrev exB:List Ar:=[([(97:UInt8)],(1:Int),boxL (0,0,4,4)),([(98:UInt8)],(1:Int),boxL (4,0,4,4)),([(100:UInt8)],(2:Int),boxL (1,1,2,2)),([(99:UInt8)],(1:Int),boxL (1,1,2,2))]
theorem q70:FewZ exA:=by unfold FewZ;decide +kernel
theorem exB_few:FewZ exB:=by unfold FewZ;decide +kernel
theorem sort_two {a b:Str} (h:a<b):q3u [a,b]=[a,b]:=by
 have hne:a≠b:=λe=>by subst e;exact List.lt_irrefl a h
 refine q7k (sortZ_lt ?_) ?_ λx=>sortZ_mem
 ·simp [hne]
 ·simp [h]
theorem exA_look:q1a Lx.q02 exA 1 (4,2)=([[97],[98]],false,0):=by
 have h1:(q0b Lx.q02 exA&&(q12 1&&onB (4,2)))=true:=by decide +kernel
 have h2:(((ofK exA 1).filter (hitZ (4,2))).map λa=>a.1)=[[97],[98]]:=by decide +kernel
 have h3:inZ exA 1 (4,2)=false:=by decide +kernel
 unfold q1a idsZ;rw [h1,h2,h3,sort_two (by decide)];rfl
theorem exB_look:q1a Lx.q02 exB 1 (2,2)=([[97],[99]],true,0):=by
 have h1:(q0b Lx.q02 exB&&(q12 1&&onB (2,2)))=true:=by decide +kernel
 have h2:(((ofK exB 1).filter (hitZ (2,2))).map λa=>a.1)=[[97],[99]]:=by decide +kernel
 have h3:inZ exB 1 (2,2)=true:=by decide +kernel
 unfold q1a idsZ;rw [h1,h2,h3,sort_two (by decide)];rfl
abbrev qi9:Prop :=
 (((0:Int)≤1∧(1:Int)≤100)∧((0:Int)≤1∧(1:Int)≤100)∧((0:Int)≤2∧(2:Int)≤100)∧(0:Int)≤2∧(2:Int)≤100)
set_option maxRecDepth 100000 in
theorem head_vc :
  (((0:Int)≤0∧(0:Int)≤100)∧((0:Int)≤0∧(0:Int)≤100)∧((0:Int)≤4∧(4:Int)≤100)∧(0:Int)≤4∧(4:Int)≤100)∧(((0:Int)≤4∧(4:Int)≤100)∧((0:Int)≤0∧(0:Int)≤100)∧((0:Int)≤4∧(4:Int)≤100)∧(0:Int)≤4∧(4:Int)≤100)∧qi9∧(([]:List Ar).length+[([(97:UInt8)],(1:Int),boxL ((0:Int),(0:Int),(4:Int),(4:Int))),([(98:UInt8)],(1:Int),boxL ((4:Int),(0:Int),(4:Int),(4:Int))),([(100:UInt8)],(2:Int),boxL ((1:Int),(1:Int),(2:Int),(2:Int)))].length)*(48:Nat)≤(140737488355328:Nat)∧qi9∧(([]++[([(97:UInt8)],(1:Int),boxL ((0:Int),(0:Int),(4:Int),(4:Int))),([(98:UInt8)],(1:Int),boxL ((4:Int),(0:Int),(4:Int),(4:Int))),([(100:UInt8)],(2:Int),boxL ((1:Int),(1:Int),(2:Int),(2:Int)))]).length+[([(99:UInt8)],(1:Int),boxL ((1:Int),(1:Int),(2:Int),(2:Int)))].length)*(48:Nat)≤(140737488355328:Nat)∧FewZ [([(97:UInt8)],(1:Int),boxL ((0:Int),(0:Int),(4:Int),(4:Int))),([(98:UInt8)],(1:Int),boxL ((4:Int),(0:Int),(4:Int),(4:Int))),([(100:UInt8)],(2:Int),boxL ((1:Int),(1:Int),(2:Int),(2:Int)))]∧FewZ [([(97:UInt8)],(1:Int),boxL ((0:Int),(0:Int),(4:Int),(4:Int))),([(98:UInt8)],(1:Int),boxL ((4:Int),(0:Int),(4:Int),(4:Int))),([(100:UInt8)],(2:Int),boxL ((1:Int),(1:Int),(2:Int),(2:Int)))]∧FewZ [([(97:UInt8)],(1:Int),boxL ((0:Int),(0:Int),(4:Int),(4:Int))),([(98:UInt8)],(1:Int),boxL ((4:Int),(0:Int),(4:Int),(4:Int))),([(100:UInt8)],(2:Int),boxL ((1:Int),(1:Int),(2:Int),(2:Int)))]∧FewZ ([]++[([(97:UInt8)],(1:Int),boxL ((0:Int),(0:Int),(4:Int),(4:Int))),([(98:UInt8)],(1:Int),boxL ((4:Int),(0:Int),(4:Int),(4:Int))),([(100:UInt8)],(2:Int),boxL ((1:Int),(1:Int),(2:Int),(2:Int)))]++[([(99:UInt8)],(1:Int),boxL ((1:Int),(1:Int),(2:Int),(2:Int)))])∧FewZ [([(97:UInt8)],(1:Int),boxL ((0:Int),(0:Int),(4:Int),(4:Int))),([(98:UInt8)],(1:Int),boxL ((4:Int),(0:Int),(4:Int),(4:Int))),([(100:UInt8)],(2:Int),boxL ((1:Int),(1:Int),(2:Int),(2:Int)))]∧FewZ [([(97:UInt8)],(1:Int),boxL ((0:Int),(0:Int),(4:Int),(4:Int))),([(98:UInt8)],(1:Int),boxL ((4:Int),(0:Int),(4:Int),(4:Int))),([(100:UInt8)],(2:Int),boxL ((1:Int),(1:Int),(2:Int),(2:Int)))]∧bif (oneZ Lx.q02 [([(97:UInt8)],(1:Int),boxL ((0:Int),(0:Int),(4:Int),(4:Int))),([(98:UInt8)],(1:Int),boxL ((4:Int),(0:Int),(4:Int),(4:Int))),([(100:UInt8)],(2:Int),boxL ((1:Int),(1:Int),(2:Int),(2:Int)))] (1:Int) ((4:Int),(2:Int))).2==(0:Int) then bif (oneZ Lx.q02 [([(97:UInt8)],(1:Int),boxL ((0:Int),(0:Int),(4:Int),(4:Int))),([(98:UInt8)],(1:Int),boxL ((4:Int),(0:Int),(4:Int),(4:Int))),([(100:UInt8)],(2:Int),boxL ((1:Int),(1:Int),(2:Int),(2:Int)))] (1:Int) ((4:Int),(2:Int))).1==[(97:UInt8)] then bif (oneZ Lx.q02 ([]++[([(97:UInt8)],(1:Int),boxL ((0:Int),(0:Int),(4:Int),(4:Int))),([(98:UInt8)],(1:Int),boxL ((4:Int),(0:Int),(4:Int),(4:Int))),([(100:UInt8)],(2:Int),boxL ((1:Int),(1:Int),(2:Int),(2:Int)))]++[([(99:UInt8)],(1:Int),boxL ((1:Int),(1:Int),(2:Int),(2:Int)))]) (1:Int) ((2:Int),(2:Int))).2==(8:Int) then (allZ Lx.q02 [([(97:UInt8)],(1:Int),boxL ((0:Int),(0:Int),(4:Int),(4:Int))),([(98:UInt8)],(1:Int),boxL ((4:Int),(0:Int),(4:Int),(4:Int))),([(100:UInt8)],(2:Int),boxL ((1:Int),(1:Int),(2:Int),(2:Int)))] (1:Int) ((4:Int),(2:Int))).1.length≤(1000000:Nat)∧bif (allZ Lx.q02 [([(97:UInt8)],(1:Int),boxL ((0:Int),(0:Int),(4:Int),(4:Int))),([(98:UInt8)],(1:Int),boxL ((4:Int),(0:Int),(4:Int),(4:Int))),([(100:UInt8)],(2:Int),boxL ((1:Int),(1:Int),(2:Int),(2:Int)))] (1:Int) ((4:Int),(2:Int))).1==[[(97:UInt8)],[(98:UInt8)]] then FewZ [([(97:UInt8)],(1:Int),boxL ((0:Int),(0:Int),(4:Int),(4:Int))),([(98:UInt8)],(1:Int),boxL ((4:Int),(0:Int),(4:Int),(4:Int))),([(100:UInt8)],(2:Int),boxL ((1:Int),(1:Int),(2:Int),(2:Int)))]∧FewZ ([]++[([(97:UInt8)],(1:Int),boxL ((0:Int),(0:Int),(4:Int),(4:Int))),([(98:UInt8)],(1:Int),boxL ((4:Int),(0:Int),(4:Int),(4:Int))),([(100:UInt8)],(2:Int),boxL ((1:Int),(1:Int),(2:Int),(2:Int)))]++[([(99:UInt8)],(1:Int),boxL ((1:Int),(1:Int),(2:Int),(2:Int)))])∧FewZ [([(97:UInt8)],(1:Int),boxL ((0:Int),(0:Int),(4:Int),(4:Int))),([(98:UInt8)],(1:Int),boxL ((4:Int),(0:Int),(4:Int),(4:Int))),([(100:UInt8)],(2:Int),boxL ((1:Int),(1:Int),(2:Int),(2:Int)))]∧FewZ [([(97:UInt8)],(1:Int),boxL ((0:Int),(0:Int),(4:Int),(4:Int))),([(98:UInt8)],(1:Int),boxL ((4:Int),(0:Int),(4:Int),(4:Int))),([(100:UInt8)],(2:Int),boxL ((1:Int),(1:Int),(2:Int),(2:Int)))]∧(!q0g Lx.q02 [([(97:UInt8)],(1:Int),boxL ((0:Int),(0:Int),(4:Int),(4:Int))),([(98:UInt8)],(1:Int),boxL ((4:Int),(0:Int),(4:Int),(4:Int))),([(100:UInt8)],(2:Int),boxL ((1:Int),(1:Int),(2:Int),(2:Int)))] (1:Int) (2:Int))=true else false=true else false=true else false=true else false=true:=by
 delta qi9
 have q1:oneZ Lx.q02 exA 1 (4,2)=([97],0):=by unfold oneZ;rw [exA_look];rfl
 have q2:oneZ Lx.q02 exB 1 (2,2)=([],8):=by unfold oneZ;rw [exB_look];rfl
 have q3:allZ Lx.q02 exA 1 (4,2)=([[97],[98]],0):=by unfold allZ;rw [exA_look]
 have q4:q0g Lx.q02 exA 1 2=false:=by decide +kernel
 show _∧_∧_∧_∧_∧_∧FewZ exA∧FewZ exA∧FewZ exA∧FewZ exB∧FewZ exA∧FewZ exA∧bif (oneZ Lx.q02 exA 1 (4,2)).2==0 then bif (oneZ Lx.q02 exA 1 (4,2)).1==[97] then bif (oneZ Lx.q02 exB 1 (2,2)).2==8 then (allZ Lx.q02 exA 1 (4,2)).1.length≤1000000∧bif (allZ Lx.q02 exA 1 (4,2)).1==[[97],[98]] then FewZ exA∧FewZ exB∧FewZ exA∧FewZ exA∧(!q0g Lx.q02 exA 1 2)=true else false=true else false=true else false=true else false=true
 rw [q1,q2,q3,q4];exact ⟨by decide,by decide,by decide,by decide,by decide,by decide,q70,q70,q70,exB_few,q70,q70,by decide,q70,exB_few,q70,q70,rfl⟩
set_option maxRecDepth 100000 in
theorem box_vc (x y w h:Int) (hp:cBox.pre (x,y,w,h)) :
    ((-9223372036854775808:Int)≤x+w∧x+w≤(9223372036854775807:Int))∧((-9223372036854775808:Int)≤x+w∧x+w≤(9223372036854775807:Int))∧((-9223372036854775808:Int) ≤
    y+h∧y+h≤(9223372036854775807:Int))∧((-9223372036854775808:Int)≤y+h∧y+h≤(9223372036854775807:Int))∧[(x,y),(x+w,y),(x+w,y+h),(x,y+h)]=boxL (x,y,
    w,h)
     := by
  obtain ⟨h1,h2,h3,h4⟩:(0≤x∧x≤100)∧(0≤y∧y≤100)∧(0≤w∧w≤100)∧(0≤h∧h≤100):=hp;exact ⟨by omega,by omega,by omega,by omega,rfl⟩
set_option maxRecDepth 100000 in
theorem fewR_vc (l:List Ar) :
    (∃ (p':Nat),(p'≤(6:Nat)∧p'≤l.length∧((List.take p' l).all λ(a:Ar)=>decide (a.2.2.length≤(12:Nat))&&decide (List.length a.1≤(100:Nat)))=true)∧((0:Int) =
    (p':Int)∧l=l∧(6:Int)=(6:Int)∧True)∧True∧True∧True∧True∧True∧True∧True∧True∧True)∧∀ (p:Nat),p≤(6:Nat)∧p≤l.length∧((List.take p l).all λ(a
    : Ar)=>decide (a.2.2.length≤(12:Nat))&&decide (List.length a.1≤(100:Nat)))=true→bif decide ((p:Int)<(l.length:Int)) then bif decide ((p:Int)<(6:Int)) then ((0
    : Int)≤(p:Int)∧(p:Int)<(l.length:Int))∧bif decide ((12:Int)<(↑(l.getD (p:Int).toNat ([],(0:Int),[])).2.2.length:Int)) then false=q3x l (6:Int) else ((0 :
    Int)≤(p:Int)∧(p:Int)<(l.length:Int))∧bif decide ((100:Int)<(↑(l.getD (p:Int).toNat ([],(0:Int),[])).1.length:Int)) then false=q3x l (6:Int) else
    ((-9223372036854775808:Int)≤(p:Int)+(1:Int)∧(p:Int)+(1:Int)≤(9223372036854775807:Int))∧∃ (p':Nat),(p'≤(6:Nat)∧p'≤l.length∧((List.take p' l).all λ(a
    : Ar)=>decide (a.2.2.length≤(12:Nat))&&decide (List.length a.1≤(100:Nat)))=true)∧l.length-p'<l.length-p∧((p:Int)+(1:Int)=(p':Int)∧l=l∧(6:Int)=(6
    : Int)∧True)∧True∧True∧True∧True∧True∧True∧True∧True∧True else decide ((l.length:Int)≤(6:Int))=q3x l (6:Int) else decide ((l.length:Int)≤(6:Int)) =
    q3x l (6:Int)
     := by
  simp only [and_true,eq_self,and_self];refine ⟨⟨0,⟨Nat.zero_le _,Nat.zero_le _,rfl⟩,rfl⟩,?_⟩;rintro k ⟨h6,hk,ha⟩;have e:q3x l 6=(l.all (λa=>decide (a.2.2.length≤12)&&decide (a.1.length≤100))&&decide ((l.length:Int)≤6)):=rfl
  rw [e];refine bifP (λhb=>bifP (λh7=>?_) λh7=>?_) λhb=>?_
  rotate_left
  · have h8:¬ (l.length:Int)≤6:=by have:=of_decide_eq_true hb;have:=of_decide_eq_false h7;omega
    rw [decide_eq_false h8,Bool.and_false]
  · have:k=l.length:=by have:=of_decide_eq_false hb;omega
    subst this;rw [List.take_length] at ha;rw [ha];rfl
  have hkl:k<l.length:=by have:=of_decide_eq_true hb;omega
  have h7:=of_decide_eq_true h7;simp only [Int.toNat_natCast];refine ⟨by omega,bifP (λc=>?_) λc=>⟨by omega,bifP (λd=>?_) λd=>⟨by omega,k+1,⟨by omega,by omega,?_⟩,by omega,by omega⟩⟩⟩
  · have c:=of_decide_eq_true c
    rw [all_no l ar0 _ k hkl (by rw [decide_eq_false (show ¬ (l.getD k ar0).2.2.length≤12 by show ¬ (l.getD k ([],0,[])).2.2.length≤12;omega)];rfl)];rfl
  · have d:=of_decide_eq_true d
    rw [all_no l ar0 _ k hkl (by rw [decide_eq_false (show ¬ (l.getD k ar0).1.length≤100 by show ¬ (l.getD k ([],0,[])).1.length≤100;omega),Bool.and_false])];rfl
  · have c:=of_decide_eq_false c
    have d:=of_decide_eq_false d;rw [qds l ar0 _ k hkl,ha,decide_eq_true (show (l.getD k ar0).2.2.length≤12 by show (l.getD k ([],0,[])).2.2.length≤12;omega),decide_eq_true (show (l.getD k ar0).1.length≤100 by show (l.getD k ([],0,[])).1.length≤100;omega)];rfl
set_option maxRecDepth 100000 in
theorem fewZ_vc (l:List Ar) :
    (6:Int)=(6:Int)∧q3x l (6:Int)=q3x l (6:Int)
     := by
  exact ⟨rfl,rfl⟩
set_option maxRecDepth 100000 in
theorem texts_vc (a b:List Str) (h:cTexts.pre (a,b)) :
    bif (a.length:Int) != (b.length:Int) then false=(a==b) else (∃ (p':Nat),(p'≤a.length∧List.take p' a=List.take p' b)∧((0:Int)=(p':Int)∧a=a∧b=b∧True) ∧
    True∧True∧True∧True∧True∧True∧True∧True∧True)∧∀ (p:Nat),p≤a.length∧List.take p a=List.take p b→bif decide ((p:Int)<(a.length:Int)) then ((0:Int)≤(↑p
    : Int)∧(p:Int)<(a.length:Int))∧((0:Int)≤(p:Int)∧(p:Int)<(b.length:Int))∧bif !a.getD (p:Int).toNat []==b.getD (p:Int).toNat [] then false=(a==b)
    else ((-9223372036854775808:Int)≤(p:Int)+(1:Int)∧(p:Int)+(1:Int)≤(9223372036854775807:Int))∧∃ (p':Nat),(p'≤a.length∧List.take p' a=List.take p' b) ∧
    a.length-p'<a.length-p∧((p:Int)+(1:Int)=(p':Int)∧a=a∧b=b∧True)∧True∧True∧True∧True∧True∧True∧True∧True∧True else true=(a==b)
     := by
  have h:a.length≤1000000:=h;simp only [and_true,eq_self,and_self];refine bifP (λhn=>?_) λhn=>⟨⟨0,⟨Nat.zero_le _,rfl⟩,rfl⟩,?_⟩
  · symm
    rw [beq_eq_false_iff_ne];rintro rfl;simp at hn
  have hn:a.length=b.length:=by
    have:((a.length:Int) != (b.length:Int))=false:=hn
    have:=bne_eq_false_iff_eq.1 this
    omega
  rintro k ⟨hk,ht⟩;refine bifP (λhb=>?_) λhb=>?_
  · have hka:k<a.length:=by have:=of_decide_eq_true hb;omega
    have hkb:k<b.length:=by omega
    simp only [Int.toNat_natCast];refine ⟨by omega,by omega,bifP (λc=>?_) λc=>⟨by omega,k+1,⟨by omega,?_⟩,by omega,by omega⟩⟩
    · symm
      rw [beq_eq_false_iff_ne];rintro rfl;simp at c
    · have c:(a.getD k []==b.getD k [])=true:=cast (Bool.not_eq_false' _) c
      rw [q1x a [] k hka,q1x b [] k hkb,ht,eq_of_beq c]
  · have hka:a.length≤k:=by have:=of_decide_eq_false hb;omega
    rw [List.take_of_length_le hka,List.take_of_length_le (by omega)] at ht
    exact (beq_iff_eq.2 ht).symm
set_option maxRecDepth 100000 in
theorem hasl_vc (l:List Str) (s:Str) (h:cHas.pre (l,s)) :
    (∃ (p':Nat),(p'≤l.length∧(List.take p' l).contains s=false)∧((0:Int)=(p':Int)∧l=l∧s=s∧True)∧True∧True∧True∧True∧True∧True∧True∧True∧True)∧∀ (p
    : Nat),p≤l.length∧(List.take p l).contains s=false→bif decide ((p:Int)<(l.length:Int)) then ((0:Int)≤(p:Int)∧(p:Int)<(l.length:Int))∧bif l.getD (↑p :
    Int).toNat []==s then true=l.contains s else ((-9223372036854775808:Int)≤(p:Int)+(1:Int)∧(p:Int)+(1:Int)≤(9223372036854775807:Int))∧∃ (p':Nat),(p'≤l.length
    ∧ (List.take p' l).contains s=false)∧l.length-p'<l.length-p∧((p:Int)+(1:Int)=(p':Int)∧l=l∧s=s∧True)∧True∧True∧True∧True∧True∧True∧True∧True
    ∧ True else false=l.contains s
     := by
  have h:l.length≤1000000:=h;simp only [and_true,eq_self,and_self];refine ⟨⟨0,⟨Nat.zero_le _,rfl⟩,rfl⟩,?_⟩;rintro k ⟨hk,ha⟩;refine bifP (λhb=>?_) λhb=>?_
  · have hkl:k<l.length:=by have:=of_decide_eq_true hb;omega
    simp only [Int.toNat_natCast];refine ⟨by omega,bifP (λc=>?_) λc=>⟨by omega,k+1,⟨by omega,?_⟩,by omega,by omega⟩⟩
    · symm
      rw [List.contains_iff_mem,← eq_of_beq c];exact q1v l [] k hkl
    · have ha:s ∉ l.take k:=λhm=>by rw [← List.contains_iff_mem,ha] at hm;cases hm
      have c:l.getD k []≠s:=beq_eq_false_iff_ne.1 c;rw [← Bool.not_eq_true,List.contains_iff_mem,q1x l [] k hkl,List.mem_append,List.mem_singleton];rintro (h | h)
      · exact ha h
      · exact c h.symm
  · have:k=l.length:=by have:=of_decide_eq_false hb;omega
    subst this;rw [List.take_length] at ha;exact ha.symm
set_option maxRecDepth 100000 in
theorem kinds_vc (n:Int) :
    bif decide ((1:Int)≤n) then decide (n≤(3:Int))=q12 n else false=q12 n
     := by
  exact kn_vc n
end Go.Proofs.YtnpkpehlncnkgaaGreatDoor
namespace Go.Proofs.YtnpkpehlncnkgaaGreatDoor
open Go.RowKit Go.ChangeShapes Go.WideShapes
namespace R
def fldK (T:TypeId→Option Kds) (P:Program):List Field→Nat→Option Kds
 | [],_=>none
 | [f],o=>match T f.type with
  | some fs=>bif f.offset.beq o&&(P.cellsOf f.type).beq fs.size then some fs else none
  | none=>none
 | f::g::r,o=>match T f.type,fldK T P (g::r) (o+P.cellsOf f.type) with
  | some fs,some gs=>bif f.offset.beq o&&(P.cellsOf f.type).beq fs.size then some (fs.app gs) else none
  | _,_=>none
def repK (fs:Kds):Nat→Option Kds
 | 0=>none
 | 1=>some fs
 | n+2=>match repK fs (n+1) with
  | some gs=>some (fs.app gs)
  | none=>none
def tyK (P:Program):Nat→TypeId→Option Kds
 | 0,_=>none
 | n+1,t=>match P.underlying t with
  | some (.int k)=>some (.one (.int k))
  | some .bool=>some (.one .bool)
  | some .string=>some (.one .str)
  | some (.slice e)=>match tyK P n e with
   | some fs=>bif (P.cellsOf e).beq fs.size then some (.one (.sl fs)) else none
   | none=>none
  | some (.struct F)=>match fldK (tyK P n) P F.toList 0 with
   | some fs=>bif (P.cellsOf t).beq fs.size then some fs else none
   | none=>none
  | some (.array len e)=>match tyK P n e with
   | some fs=>bif (P.cellsOf e).beq fs.size then (match repK fs len with
    | some gs=>bif (P.cellsOf t).beq gs.size then some gs else none
    | none=>none) else none
   | none=>none
  | _=>none
def ckT (P:Program) (t:TypeId):Option CK :=
 match P.underlying t with
 | some (.struct _)=>(tyK P 20 t).map .agg
 | some (.array _ _)=>none
 | _=>match tyK P 20 t with
  | some (.one k)=>some (.one k)
  | _=>none
def appPay:(fs:Kds)→{gs:Kds}→fs.Pay→gs.Pay→(fs.app gs).Pay
 | .one _,_,p,q=>(p,q)
 | .cons _ ks,_,p,q=>(p.1,appPay ks p.2 q)
theorem qim:∀ (fs gs:Kds),(fs.app gs).size=fs.size+gs.size
 | .one k,gs=>by show gs.size+1=1+gs.size;omega
 | .cons k ks,gs=>by show (ks.app gs).size+1=ks.size+1+gs.size;rw [qim];omega
theorem app_big:∀ (fs:Kds) {gs:Kds} (p:fs.Pay) (q:gs.Pay),fs.Big p→gs.Big q→(fs.app gs).Big (appPay fs p q)
 | .one k,gs,p,q,hp,hq=>⟨hp,hq⟩
 | .cons k ks,gs,p,q,hp,hq=>⟨hp.1,app_big ks p.2 q hp.2 hq⟩
section
variable {H:Type} {enc:TypeId×Value→H} {P:Program} {w:World} {base:Nat} {spare:Nat→Bool} {held:Bool}
theorem qfj:∀ (fs:Kds) {gs:Kds} (p:fs.Pay) (q:gs.Pay) (cs ds:List Value),q2a w fs p cs→q2a w gs q ds→q2a w (fs.app gs) (appPay fs p q) (cs++ds)
 | .one k,gs,p,q,cs,ds,hp,hq=>by
  obtain ⟨v,rfl,hv⟩:=hp;exact ⟨v,ds,rfl,hv,hq⟩
 | .cons k ks,gs,p,q,cs,ds,hp,hq=>by
  obtain ⟨v,r,rfl,hv,hr⟩:=hp;exact ⟨v,r++ds,rfl,hv,qfj ks p.2 q r ds hr hq⟩
def Opens (enc:TypeId×Value→H) (P:Program) (w:World) (base:Nat) (spare:Nat→Bool) (held:Bool) (t:TypeId) (fs:Kds):Prop :=
 ∀ (fuel:Nat) (cs:List Value) (x:DataW H×List MemPlace),DataW.trod enc P w base spare held fuel t cs=some x→∃ p,q2a w fs p cs∧fs.Big p
theorem fld_opens {T:TypeId→Option Kds} (hT:∀ t fs,T t=some fs→Opens enc P w base spare held t fs):∀ (l:List Field) (o:Nat) (fs:Kds),fldK T P l o=some fs→∀ (n:Nat) (cs:List Value),cs.length=o+fs.size →
  (∀ (i:Nat) (f:Field),l[i]? = some f→∃ y,DataW.trod enc P w base spare held n f.type ((cs.drop f.offset).take (P.cellsOf f.type))=some y)→∃ p,q2a w fs p (cs.drop o)∧fs.Big p
 | [],o,fs,h,n,cs,hc,hx=>by cases h
 | [f],o,fs,h,n,cs,hc,hx=>by
  have h:(match T f.type with
   | some fs=>bif f.offset.beq o&&(P.cellsOf f.type).beq fs.size then some fs else none
   | none=>none)=some fs:=h
  split at h
  ·rename_i gs hg
   cases hb:(f.offset.beq o&&(P.cellsOf f.type).beq gs.size)
   ·rw [hb] at h;cases h
   ·rw [hb] at h
    injection h with h;subst h;rw [Bool.and_eq_true] at hb;have h1:=Nat.eq_of_beq_eq_true hb.1;have h2:=Nat.eq_of_beq_eq_true hb.2;obtain ⟨y,hy⟩:=hx 0 f rfl;rw [h1,h2,List.take_of_length_le (by rw [List.length_drop];omega)] at hy
    exact hT _ _ hg n _ y hy
  ·cases h
 | f::g::r,o,fs,h,n,cs,hc,hx=>by
  have h:(match T f.type,fldK T P (g::r) (o+P.cellsOf f.type) with
   | some fs,some gs=>bif f.offset.beq o&&(P.cellsOf f.type).beq fs.size then some (fs.app gs) else none
   | _,_=>none)=some fs:=h
  split at h
  ·rename_i k1 k2 hg hr
   cases hb:(f.offset.beq o&&(P.cellsOf f.type).beq k1.size)
   ·rw [hb] at h;cases h
   ·rw [hb] at h
    injection h with h;subst h;rw [Bool.and_eq_true] at hb;have h1:=Nat.eq_of_beq_eq_true hb.1;have h2:=Nat.eq_of_beq_eq_true hb.2;rw [qim] at hc;obtain ⟨y,hy⟩:=hx 0 f rfl;rw [h1,h2] at hy;obtain ⟨p,hp,hbp⟩:=hT _ _ hg n _ y hy;obtain ⟨q,hq,hbq⟩:=fld_opens hT (g::r) _ k2 hr n cs (by omega) λi f' hi=>hx (i+1) f' hi
    refine ⟨appPay k1 p q,?_,app_big k1 p q hbp hbq⟩;have:=qfj k1 p q _ _ hp hq;rw [h2,← List.drop_drop,List.take_append_drop] at this;exact this
  ·cases h
theorem rep_opens {e:TypeId} {fs:Kds} (hT:Opens enc P w base spare held e fs) (hce:P.cellsOf e=fs.size):∀ (len:Nat) (gs:Kds),repK fs len=some gs→∀ (n i0:Nat) (cs:List Value),cs.length=i0*fs.size+gs.size →
  (∀ (i:Nat),i<len→∃ y,DataW.trod enc P w base spare held n e ((cs.drop ((i0+i)*P.cellsOf e)).take (P.cellsOf e))=some y)→∃ p,q2a w gs p (cs.drop (i0*fs.size))∧gs.Big p
 | 0,gs,h,n,i0,cs,hc,hx=>by cases h
 | 1,gs,h,n,i0,cs,hc,hx=>by
  have h:some fs=some gs:=h;injection h with h;subst h;obtain ⟨y,hy⟩:=hx 0 Nat.one_pos;rw [hce,Nat.add_zero,List.take_of_length_le (by rw [List.length_drop];omega)] at hy
  exact hT n _ y hy
 | len+2,gs,h,n,i0,cs,hc,hx=>by
  have h:(match repK fs (len+1) with
   | some gs=>some (fs.app gs)
   | none=>none)=some gs:=h
  split at h
  ·rename_i k2 hr
   injection h with h;subst h;rw [qim] at hc;obtain ⟨y,hy⟩:=hx 0 (by omega)
   rw [hce,Nat.add_zero] at hy;obtain ⟨p,hp,hbp⟩:=hT n _ y hy;obtain ⟨q,hq,hbq⟩:=rep_opens hT hce (len+1) k2 hr n (i0+1) cs (by rw [Nat.succ_mul];omega) λi hi=>by
    have:=hx (i+1) (by omega)
    rwa [show i0+1+i=i0+(i+1) by omega]
   refine ⟨appPay fs p q,?_,app_big fs p q hbp hbq⟩;have:=qfj fs p q _ _ hp hq;rw [Nat.succ_mul,← List.drop_drop,List.take_append_drop] at this;exact this
  ·cases h
theorem qbf:∀ (n:Nat) (t:TypeId) (fs:Kds),tyK P n t=some fs→Opens enc P w base spare held t fs
 | 0,t,fs,h=>by cases h
 | n+1,t,fs,h=>by
  intro fuel cs x hx;unfold tyK at h;split at h
  ·rename_i k hu
   injection h with h;subst h;obtain ⟨m,h1,h2,h3⟩:=DataW.trod_int hu hx;exact ⟨m,⟨_,h1,rfl⟩,by first | exact h3 | exact h3.1 | exact h3.2⟩
  ·rename_i hu
   injection h with h;subst h;obtain ⟨b,h1,_⟩:=DataW.trod_bool hu hx;exact ⟨b,⟨_,h1,rfl⟩,trivial⟩
  ·rename_i hu
   injection h with h;subst h;obtain ⟨s,h1,_,h3⟩:=DataW.trod_string hu hx;exact ⟨s.data.toList,⟨_,h1,rfl⟩,h3⟩
  ·rename_i e hu
   split at h
   ·rename_i gs hg
    cases hb:(P.cellsOf e).beq gs.size
    ·rw [hb] at h;cases h
    ·rw [hb] at h
     injection h with h;subst h;have hce:=Nat.eq_of_beq_eq_true hb;have hO:=qbf n e gs hg;rcases Go.Deep.open_slice hu hx with ⟨rfl,_⟩ | ⟨a,len,cap,m,k,D,Pl,rfl,hbb,hlc,hm,hmm,_,hxx⟩
     ·exact ⟨([]:List gs.Pay),⟨_,rfl,none,0,rfl,Nat.le_refl _,λh=>absurd h (Nat.lt_irrefl _)⟩,Nat.zero_le _,λx h=>by cases h⟩
     ·have hlm:len≤m:=by rw [hmm];split <;> omega
      have each:∀ i,i<len→∃ p:gs.Pay,∀ g o,a=⟨g,o,none⟩→gs.Rep w (Here w) p g (o+i*gs.size)∧gs.Big p:=λi hi=>by
       obtain ⟨cs',h1,h2⟩:=hxx i (by omega)
       obtain ⟨p,hp,hbig⟩:=hO k cs' _ h2;refine ⟨p,λg o ha=>⟨q2a.row gs p cs' g _ hp λj hj=>?_,hbig⟩⟩
       subst ha;obtain ⟨_,hl,hc⟩:=World.cells?_some h1;have:=hc j (by omega)
       rw [add_pl',add_pl',hce] at this;exact this
      obtain ⟨f,hf⟩:∃ f:Nat→gs.Pay,∀ i,i<len→∀ g o,a=⟨g,o,none⟩→gs.Rep w (Here w) (f i) g (o+i*gs.size)∧gs.Big (f i):=by
       haveI:Inhabited gs.Pay:=⟨gs.dflt⟩
       exact Go.Deep.choose_lt each
      have hlen:((List.range len).map f).length=len:=by simp
      have hpl:0<len→∃ g o,a=⟨g,o,none⟩∧g<w.heap.size:=λhpos=>by
       obtain ⟨cs',h1,_⟩:=hxx 0 (by omega)
       obtain ⟨_,hl,hc⟩:=World.cells?_some h1;have:=hc 0 (by rw [hce];exact gs.q6k)
       rw [Nat.zero_mul] at this;have hlt:0<cs'.length:=by rw [hl,hce];exact gs.q6k
       rw [List.getElem?_eq_getElem hlt] at this;have ha:a.add 0=a:=by unfold Addr.add;simp
       rw [ha] at this;exact cell_plain' this
      refine ⟨((List.range len).map f:List gs.Pay),⟨_,rfl,some a,cap,by rw [hlen],by rw [hlen];exact hlc,λhpos=>?_⟩,?_,?_⟩
      ·rw [hlen] at hpos
       obtain ⟨g,o,rfl,hg⟩:=hpl hpos;refine ⟨g,o,rfl,hg,hg,λi x hi=>?_⟩
       have hil:i<len:=by
        rcases Nat.lt_or_ge i len with h' | h'
        ·exact h'
        ·rw [List.getElem?_eq_none (by rw [hlen];exact h')] at hi;cases hi
       rw [List.getElem?_map,List.getElem?_range hil] at hi;injection hi with hi;subst hi;exact (hf i hil g o rfl).1
      ·rw [hlen];unfold maxLen at hm;omega
      ·intro x hx'
       obtain ⟨i,hi,rfl⟩:=List.mem_map.1 hx';have hi:=List.mem_range.1 hi;obtain ⟨g,o,ha,hg⟩:=hpl (by omega)
       exact (hf i hi g o ha).2
   ·cases h
  ·rename_i F hu
   split at h
   ·rename_i gs hg
    cases hb:(P.cellsOf t).beq gs.size
    ·rw [hb] at h;cases h
    ·rw [hb] at h
     injection h with h;subst h;have hct:=Nat.eq_of_beq_eq_true hb;obtain ⟨xs,m,rfl,_,hl,hxl,hxx⟩:=DataW.trod_struct hu hx;have:=fld_opens (qbf n) F.toList 0 gs hg m cs (by omega) λi f hi=>by
      have h1:F[i]? = some f:=by rw [← Array.getElem?_toList];exact hi
      have h2:=hxx i f h1;have hil:i<xs.length:=by
       rw [hxl];exact (Array.getElem?_eq_some_iff.1 h1).1
      rw [List.getElem?_eq_getElem hil] at h2;exact ⟨_,h2⟩
     rwa [List.drop_zero] at this
   ·cases h
  ·rename_i len e hu
   split at h
   ·rename_i fs1 hg
    cases hb1:(P.cellsOf e).beq fs1.size
    ·rw [hb1] at h;cases h
    ·rw [hb1] at h
     have hce:=Nat.eq_of_beq_eq_true hb1;dsimp only [cond_true] at h;split at h
     ·rename_i gs hr
      cases hb:(P.cellsOf t).beq gs.size
      ·rw [hb] at h;cases h
      ·rw [hb] at h
       injection h with h;subst h;have hct:=Nat.eq_of_beq_eq_true hb;obtain ⟨xs,m,rfl,_,hl,hxl,hxx⟩:=DataW.trod_array hu hx;have:=rep_opens (qbf n e fs1 hg) hce len gs hr m 0 cs (by omega) λi hi=>by
        have h2:=hxx i hi;rw [List.getElem?_eq_getElem (by omega)] at h2
        rw [Nat.zero_add];exact ⟨_,h2⟩
       rwa [Nat.zero_mul,List.drop_zero] at this
     ·cases h
   ·cases h
  ·cases h
theorem q1e {r:Reach} {b0:Nat} (x:CK) (t:TypeId) (ht:ckT P t=some x) {v:Value} {d:DataW H} {ps:List MemPlace} (hv:Value.okWide P w r b0 t v) (h:DataW.Trod enc P w base spare held t v d ps) :
  ∃ p:x.Pay,(x.comp p).Rep (Cx.of (Here w)) w v∧x.Big p:=by
 obtain ⟨fuel,hf⟩:=h;unfold ckT at ht;split at ht
 ·rename_i F hu
  cases hk:tyK P 20 t with
  | none=>rw [hk] at ht;cases ht
  | some ks =>
   rw [hk] at ht;injection ht with ht;subst ht;obtain ⟨cs,rfl,hsz⟩:=okWide_struct hu hv;obtain ⟨p,hp,hb⟩:=qbf 20 t ks hk fuel _ _ hf;obtain ⟨h1,h2,h3⟩:=q2a.reps ks p _ hp;refine ⟨p,⟨cs,rfl,?_,λi c hi=>?_,λi u hi=>?_⟩,hb⟩
   ·rw [← h3];simp [Value.cells]
   ·obtain ⟨u,hu,hr⟩:=h1 i c hi
    exact ⟨u,by simpa [Value.cells] using hu,hr⟩
   ·exact h2 i u (by simpa [Value.cells] using hi)
 ·cases ht
 ·rename_i hns hna
  split at ht
  ·rename_i k hk
   injection ht with ht;subst ht;have hone:v.cells.toList=[v]:=by
    unfold tyK at hk;split at hk
    ·rename_i hu;obtain ⟨n,rfl⟩:=okWide_int hu hv;rfl
    ·rename_i hu;obtain ⟨n,rfl⟩:=okWide_bool hu hv;rfl
    ·rename_i hu;obtain ⟨n,rfl⟩:=okWide_string hu hv;rfl
    ·rename_i hu;obtain ⟨a,n,c,rfl⟩:=okWide_slice hu hv;rfl
    ·rename_i hu;exact absurd hu (hns _)
    ·rename_i hu;exact absurd hu (hna _ _)
    ·cases hk
   obtain ⟨p,⟨v',h1,h2⟩,h3⟩:=qbf 20 t (.one k) hk fuel _ _ hf;rw [hone] at h1;injection h1 with h1;subst h1;exact ⟨p,h2,h3⟩
  ·cases ht
end
end R
end Go.Proofs.YtnpkpehlncnkgaaGreatDoor
namespace Go.Proofs.YtnpkpehlncnkgaaGreatDoor
open Go.RowKit R Geo.Zn Zl
theorem less_lt:∀ (x y:List UInt8),Op.bytesLess x y=decide (x<y)
 | [],[]=>by simp [Op.bytesLess]
 | _::_,[]=>by simp [Op.bytesLess]
 | [],_::_=>by simp [Op.bytesLess]
 | a::x,b::y=>by
  rw [Op.bytesLess,less_lt x y];simp only [List.cons_lt_cons_iff];by_cases h1:a<b <;> by_cases h2:a=b <;> by_cases h3:x<y <;> simp [h1,h2,h3]
abbrev q2d:CK:=qa8
abbrev ckU8:CK:=.one (.int .u8)
def arRow (l:List Ar):Row:=⟨41,kAr,l⟩
noncomputable def qae:List Con:=[cHead,cFewZ,cAll,cOne.lent,q8j.lent,cKinds,cOn,qib,cHas,cTexts,q6t.lent,q8p.lent]
def isZ (n:Int) (p:P2) (a:Ar):Bool:=a.2.1==n&&decide (0≤q0i a.2.2 p)
def cLAll:Con:=.of 4 [q2d,q0s,ckPt] [q10] (λq=>CK.Big q2d q.1∧CK.Big q0s q.2.1∧CK.Big ckPt q.2.2) (λ_=>true)
def anLAll (l:List Ar) (n:Int) (p:P2):List (Nat×Ann) :=
  [annX 0 Nat (λst k=>st.hd { live:=[0,1,5,7,8,9],sav:=[],box:=[5] } [(10,R.int .i64 ((l.take k).filter (isZ n p)).length),(11,R.int .i64 k)] [] [] [] none) (λ_ k=>k≤l.length) (λ_ k=>l.length-k),
   annX 2 Nat (λst k=>st.hd { live:=[0,1,5,7,8,10],sav:=[],box:=[5] } [(13,R.int .i64 k)] [] [] [] none) (λ_ k=>1≤k) (λ_ k=>(idsZ l n p).length-k)]
def cLOne:Con:=.of 5 [q2d,q0s,ckPt] [q10] (λq=>CK.Big q2d q.1∧CK.Big q0s q.2.1∧CK.Big ckPt q.2.2) (λ_=>true)
def anLOne (l:List Ar) (n:Int) (p:P2):List (Nat×Ann) :=
 [annX 0 Nat (λst k=>st.hd { live:=[0,1,5,7,8,9,10,11],sav:=[],box:=[5] } [(12,R.bool (inTo l n p k)),(13,R.int .i64 k)] [] [] [] none) (λ_ k=>k≤l.length) (λ_ k=>l.length-k)]
def cLNes:Con:=.of 7 [q2d,q0s,q0s,q0s,ckPt] [q10] (λq=>CK.Big q2d q.1∧CK.Big q0s q.2.1∧CK.Big q0s q.2.2.1∧CK.Big q0s q.2.2.2.1∧CK.Big ckPt q.2.2.2.2) (λ_=>true)
def cLOrd:Con:=.of 8 [q2d,q0s,ckPt] [q10] (λq=>CK.Big q2d q.1∧CK.Big q0s q.2.1∧CK.Big ckPt q.2.2) (λ_=>true)
def backTo (l:List Ar) (n:Int) (k:Nat):List Ar:=(ofK (l.drop k) n).reverse
def anLOrd (l:List Ar) (n:Int):List (Nat×Ann) :=
 [annX 0 Nat (λst k=>st.hd { live:=[0,1,5,7],sav:=[],box:=[5] } [(8,ownAV 48),(9,R.int .i64 ((k:Int)-1))] [] [(48,arRow (backTo l n k))] [] none) (λ_ k=>k≤l.length) (λ_ k=>k)]
def cLFew:Con:=.of 9 [q2d,q0s,ckPt,ckU8] [q10] (λq=>CK.Big q2d q.1∧CK.Big q0s q.2.1∧CK.Big ckPt q.2.2.1∧CK.Big ckU8 q.2.2.2) (λ_=>true)
def anLFew (l:List Ar) (n:Int) (p:P2) (u:Int):List (Nat×Ann) :=
 [annX 0 Nat (λst k=>st.hd { live:=[0,1,6,9,10,11,12,13,14,15],sav:=[],box:=[6] } [(16,ownAV 84),(17,R.int .i64 k)] [] [(84,strRow (((allZ Lx.q02 l n p).1.take k).filter λs=>!(s==(l.getD (u.tmod (l.length:Int)).toNat ar0).1)))] [] none) (λ_ k=>k≤(allZ Lx.q02 l n p).1.length) (λ_ k=>(allZ Lx.q02 l n p).1.length-k)]
theorem qad {l:List Ar}:q3x l 6=true↔FewZ l:=by
 unfold q3x FewZ;rw [Bool.and_eq_true,List.all_eq_true,decide_eq_true_eq];constructor
 ·rintro ⟨h1,h2⟩
  refine ⟨by omega,λa ha=>?_⟩
  have:=h1 a ha
  rw [Bool.and_eq_true,decide_eq_true_eq,decide_eq_true_eq] at this;exact ⟨this.2,this.1⟩
 ·rintro ⟨h1,h2⟩
  refine ⟨λa ha=>?_,by omega⟩
  rw [Bool.and_eq_true,decide_eq_true_eq,decide_eq_true_eq];exact ⟨(h2 a ha).2,(h2 a ha).1⟩
theorem few_sub {l m:List Ar} (h:FewZ l) (hs:∀ a∈m,a∈l) (hl:m.length≤l.length):FewZ m:=⟨Nat.le_trans hl h.1,λa ha=>h.2 a (hs a ha)⟩
def q3t (l:List Ar) (n:Int) (p:P2):Bool:=q0b Lx.q02 l&&(q12 n&&onB p)
theorem qb0 {l:List Ar} {n:Int} {p:P2}:q3t l n p=true↔q0b Lx.q02 l=true∧q12 n=true∧onB p=true:=by
 unfold q3t;rw [Bool.and_eq_true,Bool.and_eq_true]
theorem look_some {l:List Ar} {n:Int} {p:P2} (h:q3t l n p=true):q1a Lx.q02 l n p=(idsZ l n p,inZ l n p,0):=by
 unfold q1a;unfold q3t at h;rw [h];rfl
theorem look_none {l:List Ar} {n:Int} {p:P2} (h:q3t l n p=false):q1a Lx.q02 l n p=([],false,1):=by
 unfold q1a;unfold q3t at h;rw [h];rfl
theorem q6o {l:List Ar} {n:Int} {p:P2} (h:q3t l n p=true):allZ Lx.q02 l n p=(idsZ l n p,0):=by unfold allZ;rw [look_some h]
theorem qat {l:List Ar} {n:Int} {p:P2} (h:q3t l n p=false):allZ Lx.q02 l n p=([],1):=by unfold allZ;rw [look_none h]
theorem one_none {l:List Ar} {n:Int} {p:P2} (h:q3t l n p=false):oneZ Lx.q02 l n p=([],1):=by unfold oneZ;rw [look_none h];rfl
theorem one_some {l:List Ar} {n:Int} {p:P2} (h:q3t l n p=true):oneZ Lx.q02 l n p=match idsZ l n p with
  | []=>([],10)
  | i::r=>if !r.isEmpty&&inZ l n p then ([],8) else (i,0):=by unfold oneZ;rw [look_some h];rfl
theorem ids_le (l:List Ar) (n:Int) (p:P2):(idsZ l n p).length≤l.length:=by
 rw [ids_len];exact List.length_filter_le ..
theorem all_le (l:List Ar) (n:Int) (p:P2):(allZ Lx.q02 l n p).1.length≤l.length:=by
 cases h:q3t l n p
 ·rw [qat h];exact Nat.zero_le _
 ·rw [q6o h];exact ids_le l n p
theorem cnt_succ (l:List Ar) (n:Int) (p:P2) {k:Nat} (hk:k<l.length):((l.take (k+1)).filter (isZ n p)).length=((l.take k).filter (isZ n p)).length+bif isZ n p (l.getD k ar0) then 1 else 0:=by
 rw [q1x l ar0 k hk,List.filter_append,List.length_append,List.filter_cons];cases isZ n p (l.getD k ar0) <;> rfl
theorem cnt_le (l:List Ar) (n:Int) (p:P2) (k:Nat):((l.take k).filter (isZ n p)).length≤l.length :=
 Nat.le_trans (List.length_filter_le ..) (List.length_take_le' ..)
theorem cnt_ids (l:List Ar) (n:Int) (p:P2):(l.filter (isZ n p)).length=(idsZ l n p).length:=(ids_len l n p).symm
theorem has_ids {l:List Ar} (hv:q0b Lx.q02 l=true) (n:Int) (p:P2) {a:Ar} (ha:a∈l):(idsZ l n p).contains a.1=isZ n p a:=by
 rw [Bool.eq_iff_iff,List.contains_iff_mem,all_has hv ha];unfold isZ;rw [Bool.and_eq_true,beq_iff_eq,decide_eq_true_eq]
theorem ids_less {l:List Ar} (hv:q0b Lx.q02 l=true) (n:Int) (p:P2) {k:Nat} (h1:1≤k) (hk:k<(idsZ l n p).length):Op.bytesLess ((idsZ l n p).getD (k-1) []) ((idsZ l n p).getD k [])=true:=by
 rw [less_lt,decide_eq_true_eq];have:=List.pairwise_iff_getElem.1 (qd0 hv n p) (k-1) k (by omega) hk (by omega)
 rw [List.getD_eq_getElem?_getD,List.getElem?_eq_getElem (by omega),List.getD_eq_getElem?_getD,List.getElem?_eq_getElem hk]
 exact this
theorem where_pos (r:List P2) (p:P2):(q0i r p==1)=decide (0<q0i r p):=by
 unfold q0i;cases (!q0e r||(!onB p||q0p r (dbl p))) <;> cases q17 r (dbl p) <;> rfl
theorem in_same {l m:List Ar} {n:Int} (h:∀ a,(a∈l∧a.2.1=n)↔(a∈m∧a.2.1=n)) (p:P2):inZ l n p=inZ m n p:=by
 rw [Bool.eq_iff_iff,in_iff,in_iff];constructor
 ·rintro ⟨a,ha,h1,h2⟩;exact ⟨a,((h a).1 ⟨ha,h1⟩).1,h1,h2⟩
 ·rintro ⟨a,ha,h1,h2⟩;exact ⟨a,((h a).2 ⟨ha,h1⟩).1,h1,h2⟩
theorem look_same {l m:List Ar} (hl:q0b Lx.q02 l=true) (hm:q0b Lx.q02 m=true) {n:Int} (h:∀ a,(a∈l∧a.2.1=n)↔(a∈m∧a.2.1=n)) (p:P2):q1a Lx.q02 l n p=q1a Lx.q02 m n p:=by
 unfold q1a;rw [hl,hm,ids_same hl hm h,in_same h]
theorem apart_same {l m:List Ar} (hl:q0b Lx.q02 l=true) (hm:q0b Lx.q02 m=true) {n:Int} (h:∀ a,(a∈l∧a.2.1=n)↔(a∈m∧a.2.1=n)):q2f Lx.q02 l n=q2f Lx.q02 m n:=by
 rw [Bool.eq_iff_iff,q5n,q5n];constructor
 ·rintro ⟨_,h2,h3⟩
  exact ⟨hm,h2,λa ha ka b hb kb=>h3 a ((h a).2 ⟨ha,ka⟩).1 ka b ((h b).2 ⟨hb,kb⟩).1 kb⟩
 ·rintro ⟨_,h2,h3⟩
  exact ⟨hl,h2,λa ha ka b hb kb=>h3 a ((h a).1 ⟨ha,ka⟩).1 ka b ((h b).1 ⟨hb,kb⟩).1 kb⟩
theorem nested_kind {l:List Ar} (hv:q0b Lx.q02 l=true) (n:Int):q0g Lx.q02 l n n=q12 n:=by rw [qhb,hv];rfl
theorem nested_ids' {l:List Ar} {n i:Int} {p:P2} (h:q0g Lx.q02 l n i=true) (hne:(idsZ l n p).length≠0):(idsZ l i p).length≠0:=λe =>
 nested_ids h (λe=>hne (by rw [e];rfl)) (List.length_eq_zero_iff.1 e)
theorem back_mem {l:List Ar} {n:Int} {k:Nat} {a:Ar}:a∈backTo l n k↔a∈l.drop k∧a.2.1=n:=by
 unfold backTo ofK;rw [List.mem_reverse,List.mem_filter,beq_iff_eq]
theorem back_len (l:List Ar) (n:Int) (k:Nat):(backTo l n k).length≤l.length:=by
 unfold backTo ofK;rw [List.length_reverse];exact Nat.le_trans (List.length_filter_le ..) (by rw [List.length_drop];omega)
theorem back_few {l:List Ar} (h:FewZ l) (n:Int) (k:Nat):FewZ (backTo l n k):=few_sub h (λa ha=>List.mem_of_mem_drop (back_mem.1 ha).1) (back_len l n k)
theorem back_valid {l:List Ar} (h:q0b Lx.q02 l=true) (n:Int) (k:Nat):q0b Lx.q02 (backTo l n k)=true :=
 zvalid_perm (qjl h (List.filter_sublist.trans (List.drop_sublist k l))) (List.reverse_perm _)
theorem back_same (l:List Ar) (n:Int) (a:Ar):(a∈l∧a.2.1=n)↔(a∈backTo l n 0∧a.2.1=n):=by
 rw [back_mem,List.drop_zero,and_assoc,and_self]
theorem back_step (l:List Ar) (n:Int) {k:Nat} (hk:k<l.length):backTo l n k=backTo l n (k+1)++bif (l.getD k ar0).2.1==n then [l.getD k ar0] else []:=by
 have:l.drop k=l.getD k ar0::l.drop (k+1):=by
  rw [List.drop_eq_getElem_cons hk,List.getD_eq_getElem?_getD,List.getElem?_eq_getElem hk];rfl
 unfold backTo ofK;rw [this,List.filter_cons];cases (l.getD k ar0).2.1==n
 ·show _=_++[]
  rw [List.append_nil];rfl
 ·show (_::_).reverse=_
  rw [List.reverse_cons];rfl
def q6g (l:List Ar) (k:Nat):List Ar:=l.take k++l.drop (k+1)
theorem q8o (l:List Ar) (k:Nat):(q6g l k).Sublist l:=by
 unfold q6g;rw [← List.eraseIdx_eq_take_drop_succ];exact List.eraseIdx_sublist ..
theorem less_mem {l:List Ar} (hv:q0b Lx.q02 l=true) {k:Nat} (hk:k<l.length) (a:Ar):a∈q6g l k↔a∈l∧a.1≠(l.getD k ar0).1:=by
 have hsplit:l=l.take k++l.getD k ar0::l.drop (k+1):=by
  have:l.drop k=l.getD k ar0::l.drop (k+1):=by
   rw [List.drop_eq_getElem_cons hk,List.getD_eq_getElem?_getD,List.getElem?_eq_getElem hk];rfl
  rw [← this,List.take_append_drop]
 have hn:=(q3a.1 hv).2.1;have hmem:a∈l↔a∈l.take k∨a=l.getD k ar0∨a∈l.drop (k+1):=by
  constructor
  ·intro h
   rw [hsplit] at h;rcases List.mem_append.1 h with h | h
   ·exact .inl h
   ·rcases List.mem_cons.1 h with h | h
    ·exact .inr (.inl h)
    ·exact .inr (.inr h)
  ·rintro (h | h | h)
   ·exact List.mem_of_mem_take h
   ·rw [h];exact q1v l ar0 k hk
   ·exact List.mem_of_mem_drop h
 rw [hsplit,List.map_append,List.map_cons,List.nodup_append] at hn;obtain ⟨_,hn2,hn3⟩:=hn;rw [List.nodup_cons] at hn2;unfold q6g;rw [List.mem_append,hmem];constructor
 ·rintro (h | h)
  ·exact ⟨.inl h,hn3 _ (List.mem_map.2 ⟨a,h,rfl⟩) _ (List.mem_cons_self ..)⟩
  ·exact ⟨.inr (.inr h),λe=>hn2.1 (List.mem_map.2 ⟨a,h,e⟩)⟩
 ·rintro ⟨h | h | h,hne⟩
  ·exact .inl h
  ·exact absurd (by rw [h]) hne
  ·exact .inr h
theorem qaa {l:List Ar} (hv:q0b Lx.q02 l=true) (k:Nat):q0b Lx.q02 (q6g l k)=true:=qjl hv (q8o l k)
theorem less_few {l:List Ar} (h:FewZ l) (k:Nat):FewZ (q6g l k):=few_sub h (λa ha=>(q8o l k).subset ha) (q8o l k).length_le
theorem less_ids {l:List Ar} (hv:q0b Lx.q02 l=true) {k:Nat} (hk:k<l.length) (n:Int) (p:P2):idsZ (q6g l k) n p=(idsZ l n p).filter λs=>!(s==(l.getD k ar0).1):=by
 refine q7k (qd0 (qaa hv k) n p) ((qd0 hv n p).filter _) λx=>?_
 rw [List.mem_filter,q6v,q6v,Bool.not_eq_true',beq_eq_false_iff_ne];constructor
 ·rintro ⟨a,ha,h1,h2,e⟩
  have:=(less_mem hv hk a).1 ha
  exact ⟨⟨a,this.1,h1,h2,e⟩,by rw [← e];exact this.2⟩
 ·rintro ⟨⟨a,ha,h1,h2,e⟩,hne⟩
  exact ⟨a,(less_mem hv hk a).2 ⟨ha,by rw [e];exact hne⟩,h1,h2,e⟩
theorem less_apart {l:List Ar} (k:Nat) {n:Int} (h:q2f Lx.q02 l n=true):q2f Lx.q02 (q6g l k) n=true:=by
 obtain ⟨h1,h2,h3⟩:=q5n.1 h;exact q5n.2 ⟨qaa h1 k,h2,λa ha ka b hb kb=>h3 a ((q8o l k).subset ha) ka b ((q8o l k).subset hb) kb⟩
end Go.Proofs.YtnpkpehlncnkgaaGreatDoor

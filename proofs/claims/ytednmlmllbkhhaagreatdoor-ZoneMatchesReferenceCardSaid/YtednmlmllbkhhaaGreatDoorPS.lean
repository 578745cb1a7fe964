/-
  Several texts in one: ZnS, ZnR, ZnZ, ZnXh, Zy0, ZrU.
-/
import Derived.Test.YtednmlmllbkhhaaGreatDoorPN
import Derived.Test.YtednmlmllbkhhaaGreatDoorPP
import Derived.Test.YtednmlmllbkhhaaGreatDoorPR
import Derived.Test.YtednmlmllbkhhaaGreatDoorPQ
import Derived.Lib.OwnBridge
set_option linter.unusedVariables false
namespace Go.Proofs.YtednmlmllbkhhaaGreatDoor
open Go.RowKit R Geo.Zn Zl
set_option maxRecDepth 100000 in
theorem wi_vc (x y:List P2) (h:cWithin.pre (x,y)) :
    x.length≤(1000:Nat)∧bif q05 x then y.length≤(1000:Nat)∧bif q05 y then (q0t x∧q0t y)∧bif !q1t x y then (q05 x=true∧q05 y=true∧y.length≤(12 :
    Nat))∧(∃ (p':Nat),(p'≤(q02 x y).length∧(List.take p' (q02 x y)).any (q0m y)=false)∧((0:Int)=(p':Int)∧q02 x y=q02 x y∧y=y∧q02 x y =
    q02 x y∧(↑(q02 x y).length:Int)=(↑(q02 x y).length:Int)∧True)∧True∧True∧True∧True∧(true=true∧True)∧True∧True∧True∧True)∧∀ (p:Nat),p ≤
    (q02 x y).length∧(List.take p (q02 x y)).any (q0m y)=false→bif decide ((p:Int)<(↑(q02 x y).length:Int)) then ((0:Int)≤(p:Int)∧(p:Int) <
    (↑(q02 x y).length:Int))∧(q0t y∧q0r ((q02 x y).getD (p:Int).toNat ((0:Int),(0:Int))))∧bif q0m y ((q02 x y).getD (p:Int).toNat ((0:Int),(0 :
    Int))) then (!decide ((0:Int)≤(p:Int)))=q0i x y else ((-9223372036854775808:Int)≤(p:Int)+(1:Int)∧(p:Int)+(1:Int)≤(9223372036854775807:Int))∧∃ (p' :
    Nat),(p'≤(q02 x y).length∧(List.take p' (q02 x y)).any (q0m y)=false)∧(q02 x y).length-p'<(q02 x y).length-p∧((p:Int)+(1:Int)=(p':Int) ∧
    q02 x y=q02 x y∧y=y∧q02 x y=q02 x y∧(↑(q02 x y).length:Int)=(↑(q02 x y).length:Int)∧True)∧True∧True∧True∧True∧(true=true∧True)
    ∧ True∧True∧True∧True else (!decide ((0:Int)≤(-1:Int)))=q0i x y else false=q0i x y else false=q0i x y else false=q0i x y
     := by
  obtain ⟨h1,h2⟩:x.length≤12∧y.length≤12:=h;simp only [and_true,eq_self,and_self];have hW:q0i x y=(q05 x&&(q05 y&&(!q1t x y&&!(q02 x y).any (q0m y)))):=rfl;rw [hW];refine ⟨by omega,bifP (λhx=>⟨by omega,bifP (λhy=>?_) λhy=>by rw [hx,hy];rfl⟩) λhx=>by rw [hx];rfl⟩
  have vx:=q1q hx;have vy:=q1q hy;rw [hx,hy,Bool.true_and,Bool.true_and];refine ⟨⟨⟨vx.2.1,vx.2.2⟩,vy.2.1,vy.2.2⟩,bifP (λhc=>?_) λhc=>by rw [hc];rfl⟩
  rw [hc,Bool.true_and];refine ⟨⟨rfl,rfl,h2⟩,qer _ _ (by have:=qda hx hy h2;omega) (Pre:=λm=>q0t y∧q0r m) (λm hm=>⟨⟨vy.2.1,vy.2.2⟩,qbv hx hy hm⟩) (λp hp hf=>?_) λha=>?_⟩
  · rw [qhq _ z0 _ p hp hf,decide_eq_true (show (0:Int)≤(p:Int) by omega)]
  · rw [ha];rfl
set_option maxRecDepth 100000 in
theorem ap_vc (x y:List P2) (h:cApartP.pre (x,y)) :
    x.length≤(1000:Nat)∧bif !q05 x then false=q1k x y else y.length≤(1000:Nat)∧bif !q05 y then false=q1k x y else (q0t x∧q0t y)∧bif q1t x y then false
    = q1k x y else (q05 x=true∧q05 y=true∧y.length≤(12:Nat))∧(∃ (p':Nat),(p'≤(q02 x y).length∧(List.take p' (q02 x y)).any (q0m y)=false)∧((0 :
    Int)=(p':Int)∧q02 x y=q02 x y∧y=y∧q02 x y=q02 x y∧(↑(q02 x y).length:Int)=(↑(q02 x y).length:Int)∧True)∧True∧True∧True∧True ∧
    (x=x∧y=y∧q02 x y=q02 x y∧True∧True∧True)∧True∧True∧True∧True)∧∀ (p:Nat),p≤(q02 x y).length∧(List.take p (q02 x y)).any (q0m y) =
    false→bif decide ((p:Int)<(↑(q02 x y).length:Int)) then ((0:Int)≤(p:Int)∧(p:Int)<(↑(q02 x y).length:Int))∧(q0t y∧q0r ((q02 x y).getD (↑p :
    Int).toNat ((0:Int),(0:Int))))∧bif q0m y ((q02 x y).getD (p:Int).toNat ((0:Int),(0:Int))) then (∃ (p':Nat),(p'≤(q02 x y).length∧(List.take p' (q02 x
    y)).any (q0w y)=false)∧((0:Int)=(p':Int)∧q02 x y=q02 x y∧y=y∧q02 x y=q02 x y∧(↑(q02 x y).length:Int)=(↑(q02 x y).length:Int)
    ∧ True)∧True∧True∧True∧True∧(x=x∧y=y∧q02 x y=q02 x y∧true=true∧True∧True)∧True∧True∧True∧True)∧∀ (p:Nat),p≤(q02 x y).length ∧
    (List.take p (q02 x y)).any (q0w y)=false→bif decide ((p:Int)<(↑(q02 x y).length:Int)) then ((0:Int)≤(p:Int)∧(p:Int)<(↑(q02 x y).length:Int)) ∧
    (q0t y∧q0r ((q02 x y).getD (p:Int).toNat ((0:Int),(0:Int))))∧bif q0w y ((q02 x y).getD (p:Int).toNat ((0:Int),(0:Int))) then false=q1k x y else
    ((-9223372036854775808:Int)≤(p:Int)+(1:Int)∧(p:Int)+(1:Int)≤(9223372036854775807:Int))∧∃ (p':Nat),(p'≤(q02 x y).length∧(List.take p' (q02 x y)).any
    (q0w y)=false)∧(q02 x y).length-p'<(q02 x y).length-p∧((p:Int)+(1:Int)=(p':Int)∧q02 x y=q02 x y∧y=y∧q02 x y=q02 x y ∧
    (↑(q02 x y).length:Int)=(↑(q02 x y).length:Int)∧True)∧True∧True∧True∧True∧(x=x∧y=y∧q02 x y=q02 x y∧true=true∧True∧True)∧True∧True
    ∧ True∧True else (q05 y=true∧q05 x=true∧x.length≤(12:Nat))∧(∃ (p':Nat),(p'≤(q02 y x).length∧(List.take p' (q02 y x)).any (q0w x)=false)∧((0 :
    Int)=(p':Int)∧q02 y x=q02 y x∧x=x∧q02 y x=q02 y x∧(↑(q02 y x).length:Int)=(↑(q02 y x).length:Int)∧True)∧True∧True∧True∧True ∧
    (x=x∧y=y∧q02 x y=q02 x y∧true=true∧true=true∧True)∧True∧True∧True∧True)∧∀ (p:Nat),p≤(q02 y x).length∧(List.take p (q02 y x)).any
    (q0w x)=false→bif decide ((p:Int)<(↑(q02 y x).length:Int)) then ((0:Int)≤(p:Int)∧(p:Int)<(↑(q02 y x).length:Int))∧(q0t x∧q0r ((q02 y
    x).getD (p:Int).toNat ((0:Int),(0:Int))))∧bif q0w x ((q02 y x).getD (p:Int).toNat ((0:Int),(0:Int))) then (!decide ((0:Int)≤(p:Int)))=q1k x y else
    ((-9223372036854775808:Int)≤(p:Int)+(1:Int)∧(p:Int)+(1:Int)≤(9223372036854775807:Int))∧∃ (p':Nat),(p'≤(q02 y x).length∧(List.take p' (q02 y x)).any
    (q0w x)=false)∧(q02 y x).length-p'<(q02 y x).length-p∧((p:Int)+(1:Int)=(p':Int)∧q02 y x=q02 y x∧x=x∧q02 y x=q02 y x ∧
    (↑(q02 y x).length:Int)=(↑(q02 y x).length:Int)∧True)∧True∧True∧True∧True∧(x=x∧y=y∧q02 x y=q02 x y∧true=true∧true=true∧True)∧True
    ∧ True∧True∧True else (!decide ((0:Int)≤(-1:Int)))=q1k x y else ((-9223372036854775808:Int)≤(p:Int)+(1:Int)∧(p:Int)+(1:Int)≤(9223372036854775807:Int))
    ∧ ∃ (p':Nat),(p'≤(q02 x y).length∧(List.take p' (q02 x y)).any (q0m y)=false)∧(q02 x y).length-p'<(q02 x y).length-p∧((p:Int)+(1:Int) =
    (p':Int)∧q02 x y=q02 x y∧y=y∧q02 x y=q02 x y∧(↑(q02 x y).length:Int)=(↑(q02 x y).length:Int)∧True)∧True∧True∧True∧True∧(x=x
    ∧ y=y∧q02 x y=q02 x y∧True∧True∧True)∧True∧True∧True∧True else false=q1k x y
     := by
  obtain ⟨h1,h2⟩:x.length≤12∧y.length≤12:=h;simp only [and_true,eq_self,and_self];have hW:q1k x y=(q05 x&&(q05 y&&(!q1t x y&&((q02 x y).any (q0m y)&&(!(q02 x y).any (q0w y)&&!(q02 y x).any (q0w x)))))):=rfl;rw [hW];refine ⟨by omega,bifP (λhx=>by rw [show q05 x=false by simpa using hx];rfl) λhx=>⟨by omega,bifP (λhy=>by rw [show q05 y=false by simpa using hy,Bool.false_and,Bool.and_false]) λhy=>?_⟩⟩
  have hx:q05 x=true:=by simpa using hx
  have hy:q05 y=true:=by simpa using hy
  have vx:=q1q hx;have vy:=q1q hy;rw [hx,hy,Bool.true_and,Bool.true_and];refine ⟨⟨⟨vx.2.1,vx.2.2⟩,vy.2.1,vy.2.2⟩,bifP (λhc=>by rw [hc];rfl) λhc=>?_⟩
  rw [hc,Bool.not_false,Bool.true_and];refine ⟨⟨rfl,rfl,h2⟩,qer _ _ (by have:=qda hx hy h2;omega) (Pre:=λm=>q0t y∧q0r m) (λm hm=>⟨⟨vy.2.1,vy.2.2⟩,qbv hx hy hm⟩) (λp hp hf=>?_) λha=>?_⟩
  · rw [qhq _ z0 _ p hp hf,Bool.true_and]
    refine qer _ _ (by have:=qda hx hy h2;omega) (Pre:=λm=>q0t y∧q0r m) (λm hm=>⟨⟨vy.2.1,vy.2.2⟩,qbv hx hy hm⟩) (λq hq hg=>?_) λhb=>?_
    · rw [qhq _ z0 _ q hq hg];rfl
    · rw [hb,Bool.not_false,Bool.true_and]
      refine ⟨⟨rfl,rfl,h1⟩,qer _ _ (by have:=qda hy hx h1;omega) (Pre:=λm=>q0t x∧q0r m) (λm hm=>⟨⟨vx.2.1,vx.2.2⟩,qbv hy hx hm⟩) (λq hq hg=>?_) λhb=>?_⟩
      · rw [qhq _ z0 _ q hq hg,decide_eq_true (show (0:Int)≤(q:Int) by omega)]
      · rw [hb];rfl
  · rw [ha,Bool.false_and]
set_option maxRecDepth 100000 in
theorem wh_vc (r:List P2) (x y:Int) (h:cWhere.pre (r,(x,y))) :
    True∧True∧r.length≤(1000:Nat)∧bif !q05 r then (-1:Int)=q1i r (x,y) else True∧bif !onB (x,y) then (-1:Int)=q1i r (x,y) else (q0t r∧q0r
    (IntKind.i64.wrap ((2:Int)*x),IntKind.i64.wrap ((2:Int)*y)))∧bif q0m r (IntKind.i64.wrap ((2:Int)*x),IntKind.i64.wrap ((2:Int)*y)) then (-1:Int)=q1i r (x,y)
    else (q0t r∧q0r (IntKind.i64.wrap ((2:Int)*x),IntKind.i64.wrap ((2:Int)*y)))∧bif q0w r (IntKind.i64.wrap ((2:Int)*x),IntKind.i64.wrap ((2:Int)*y)) then (1 :
    Int)=q1i r (x,y) else (0:Int)=q1i r (x,y)
     := by
  have h1:r.length≤1000:=h;have hW:q1i r (x,y)=if !q05 r||(!onB (x,y)||q0m r (dbl (x,y))) then -1 else if q0w r (dbl (x,y)) then 1 else 0:=rfl
  have hd:dbl (x,y)=(2*x,2*y):=rfl;refine ⟨trivial,trivial,by omega,bifP (λhr=>by rw [hW,hr];rfl) λhr=>?_⟩
  have hv:q05 r=true:=by simpa using hr
  have v:=q1q hv;rw [hW,hv];refine ⟨trivial,bifP (λh=>by rw [h,Bool.true_or];rfl) λho=>?_⟩
  have h2:onB (x,y)=true:=by simpa using ho
  have o:=q0x h2;have hh:=qej h2;dsimp only at o;have w1:IntKind.i64.wrap (2*x)=2*x:=q3f (by unfold q5w;omega)
  have w2:IntKind.i64.wrap (2*y)=2*y:=q3f (by unfold q5w;omega)
  rw [hd] at hh;rw [w1,w2,hd,h2];exact ⟨⟨⟨v.2.1,v.2.2⟩,hh⟩,bifP (λho=>by rw [ho];rfl) λho=>⟨⟨⟨v.2.1,v.2.2⟩,hh⟩,bifP (λhi=>by rw [ho,hi];rfl) λhi=>by rw [ho,hi];rfl⟩⟩
set_option maxRecDepth 100000 in
theorem off_holds:cOff.Holds Tryz.prog:=by
 refine q0h (cons:=[cOn]) Tryz.func45 (by kernel_rfl) (by kernel_rfl) mixed (by kernel_rfl) (all_cons qjy all_nil) (λ_=>[]) λp hp=>?_
 obtain ⟨x,y⟩:=p;refine cast ?_ (off_vc x y)
 kernel_rfl
theorem qiv:q0g Tryz.prog qf1:=q0g.more Tryz.func71 (by kernel_rfl) (by kernel_rfl) (q0g.more Tryz.func104 (by kernel_rfl) (by kernel_rfl) q0g.nil)
theorem kitTw_ok:kitTw.Ok Tryz.prog where
 cons:=all_nil
 ns:=all_nil
 os:=all_nil
 fcs:=all_nil
 rcs:=all_nil
 inls:=qiv
set_option maxRecDepth 100000000 in
theorem twice_holds:cTwice.Holds Tryz.prog:=by
 refine q5u (T:=kitTw) (λp=>anTw p) Tryz.func46 (by kernel_rfl) (by kernel_rfl) mixed (by kernel_rfl) kitTw_ok (λ_=>[]) λp hp=>?_
 refine cast ?_ (tw_vc p hp)
 kernel_rfl
set_option maxRecDepth 100000 in
theorem simple_holds:cSimple.Holds Tryz.prog:=by
 refine q0h (cons:=[cTurn,cCross]) Tryz.func47 (by kernel_rfl) (by kernel_rfl) mixed (by kernel_rfl) (all_cons turn_holds (all_cons qib all_nil)) (λp=>anSi p) λp hp=>?_
 refine cast ?_ (si_vc p hp)
 kernel_rfl
theorem fcon_of {P:Program} {f:FuncId} {args res:List CK} {pre:Pays args→Prop} {F:Pays args→Pays res} (h:(Con.of f args res pre F).Holds P) (hf:FnOk P f) (hres:∀ p:Pays args,∀ (κ:Cx) (w:World) (v:Value),(q1e res (F p)).Rep κ w v→True) :
  ({ f:=f,args:=args,fa:=.no,res:=res,pre:=λp _=>pre p,F:=λp _=>F p }:FCon).Holds P:=by
 refine ⟨hf,λp b vs fvs w S hS hp hvs hfa=>?_⟩
 have hfa:fvs=[]:=hfa;subst hfa;rw [List.append_nil];refine Calls.mono (h.2 p vs w S hS hp hvs) ?_;rintro e w' ⟨r,v,rfl,hr,hv,hbl⟩;have hr:r=F p:=hr;subst hr;exact ⟨hbl,v,rfl,hv⟩
theorem fOff_holds:fOff.Holds Tryz.prog:=fcon_of off_holds ⟨_,Tryz.func45,by kernel_rfl,by kernel_rfl⟩ (λ_ _ _ _ _=>trivial)
theorem kitVa_ok:kitVa.Ok Tryz.prog where
 cons:=all_cons twice_holds (all_cons simple_holds all_nil)
 ns:=all_nil
 os:=all_nil
 fcs:=all_cons fOff_holds all_nil
 rcs:=all_nil
 inls:=q0g.more Tryz.func44 (by kernel_rfl) (by kernel_rfl) (q0g.more Tryz.func70 (by kernel_rfl) (by kernel_rfl) q0g.nil)
set_option maxRecDepth 100000000 in
theorem qfb:cRing.Holds Tryz.prog:=by
 refine q5u (T:=kitVa) (λp=>anVa p) Tryz.func25 (by kernel_rfl) (by kernel_rfl) mixed (by kernel_rfl) kitVa_ok (λ_=>[]) λp hp=>?_
 refine cast ?_ (va_vc p hp)
 kernel_rfl
set_option maxHeartbeats 4000000 in
set_option maxRecDepth 100000000 in
theorem qk5:cHalf.Holds Tryz.prog:=by
 refine q5u (T:=kitTw) (λp=>anHa p.1 p.2) Tryz.func84 (by kernel_rfl) (by kernel_rfl) mixed (by kernel_rfl) kitTw_ok (λ_=>anHaB) λp hp=>?_
 obtain ⟨r,x,y⟩:=p;refine cast ?_ (ha_vc r x y hp)
 kernel_rfl
set_option maxRecDepth 100000 in
theorem qh2:cInside.Holds Tryz.prog:=by
 refine q0h (cons:=[cHalf]) Tryz.func59 (by kernel_rfl) (by kernel_rfl) mixed (by kernel_rfl) (all_cons qk5 all_nil) (λ_=>[]) λp hp=>?_
 obtain ⟨r,x,y⟩:=p;refine cast ?_ (in_vc r x y hp)
 kernel_rfl
set_option maxRecDepth 100000 in
theorem qfv:qjq.Holds Tryz.prog:=by
 refine q0h (cons:=[cHalf]) Tryz.func58 (by kernel_rfl) (by kernel_rfl) mixed (by kernel_rfl) (all_cons qk5 all_nil) (λ_=>[]) λp hp=>?_
 obtain ⟨r,x,y⟩:=p;refine cast ?_ (out_vc r x y hp)
 kernel_rfl
theorem kitCx_ok:kitCx.Ok Tryz.prog where
 cons:=all_cons qib all_nil
 ns:=all_nil
 os:=all_nil
 fcs:=all_nil
 rcs:=all_nil
 inls:=qiv
set_option maxRecDepth 100000000 in
theorem qlk:qjp.Holds Tryz.prog:=by
 refine q5u (T:=kitCx) (λp=>anCx p.1 p.2) Tryz.func55 (by kernel_rfl) (by kernel_rfl) mixed (by kernel_rfl) kitCx_ok (λ_=>[]) λp hp=>?_
 obtain ⟨x,y⟩:=p;refine cast ?_ (cx_vc x y hp)
 kernel_rfl
theorem len_holds:cLen.Holds Tryz.prog:=by
 refine ⟨⟨⟨_,Tryz.func64,by kernel_rfl,by kernel_rfl⟩,λF' hF p r hr=>by injection hF with hF;subst hF;exact hr⟩,λn vs w S hS hp hvs=>?_⟩
 obtain ⟨v,rfl,hv⟩:=qf7 hvs;obtain ⟨n,rfl⟩:∃ q:Int,q=n:=⟨n,rfl⟩;obtain rfl:v=.int .u64 n:=hv;have hp:0≤n∧n<18446744073709551616:=hp;refine (Tryz.bits_Len n w hp.1 (by omega)).mono ?_
 rintro e w' ⟨rfl,rfl⟩;exact ⟨_,_,rfl,rfl,rfl,Below.refl _ _⟩
theorem kitMi_ok:kitMi.Ok Tryz.prog where
 cons:=all_cons bet_holds (all_cons dist_holds (all_cons len_holds all_nil))
 ns:=all_nil
 os:=all_nil
 fcs:=all_nil
 rcs:=all_nil
 inls:=q0g.more Tryz.func71 (by kernel_rfl) (by kernel_rfl) (q0g.more Tryz.func104 (by kernel_rfl) (by kernel_rfl) (q0g.more Tryz.func80 (by kernel_rfl) (by kernel_rfl) (q0g.more Tryz.func79 (by kernel_rfl) (by kernel_rfl)
  (q0g.more Tryz.func111 (by kernel_rfl) (by kernel_rfl) (q0g.more Tryz.func129 (by kernel_rfl) (by kernel_rfl) (q0g.more Tryz.func82 (by kernel_rfl) (by kernel_rfl) q0g.nil))))))
set_option maxHeartbeats 4000000 in
set_option maxRecDepth 100000000 in
theorem qlu:qju.Holds Tryz.prog:=by
 refine q5u (T:=kitMi) (λp=>anMiI p.1 p.2) Tryz.func56 (by kernel_rfl) (by kernel_rfl) mixed (by kernel_rfl) kitMi_ok (λp=>anMi p.2) λp hp=>?_
 obtain ⟨x,y⟩:=p;refine cast ?_ (mi_vc x y hp)
 kernel_rfl
theorem qlf:fOutside.Holds Tryz.prog:=fcon_of qfv ⟨_,Tryz.func58,by kernel_rfl,by kernel_rfl⟩ (λ_ _ _ _ _=>trivial)
theorem qm1:fInside.Holds Tryz.prog:=fcon_of qh2 ⟨_,Tryz.func59,by kernel_rfl,by kernel_rfl⟩ (λ_ _ _ _ _=>trivial)
theorem kitWi_ok:kitWi.Ok Tryz.prog where
 cons:=all_cons qfb (all_cons qlk (all_cons qlu all_nil))
 ns:=all_nil
 os:=all_nil
 fcs:=all_cons qlf (all_cons qm1 all_nil)
 rcs:=all_nil
 inls:=q0g.more Tryz.func57 (by kernel_rfl) (by kernel_rfl) (q0g.more Tryz.func83 (by kernel_rfl) (by kernel_rfl) q0g.nil)
set_option maxRecDepth 100000000 in
theorem within_holds:cWithin.Holds Tryz.prog:=by
 refine q5u (T:=kitWi) (λp=>anWi p.1 p.2) Tryz.func35 (by kernel_rfl) (by kernel_rfl) mixed (by kernel_rfl) kitWi_ok (λ_=>[]) λp hp=>?_
 obtain ⟨x,y⟩:=p;refine cast ?_ (wi_vc x y hp)
 kernel_rfl
set_option maxRecDepth 100000000 in
theorem apartP_holds:cApartP.Holds Tryz.prog:=by
 refine q5u (T:=kitWi) (λp=>anAp p.1 p.2) Tryz.func31 (by kernel_rfl) (by kernel_rfl) mixed (by kernel_rfl) kitWi_ok (λ_=>[]) λp hp=>?_
 obtain ⟨x,y⟩:=p;refine cast ?_ (ap_vc x y hp)
 kernel_rfl
set_option maxRecDepth 100000 in
theorem qj2:cWhere.Holds Tryz.prog:=by
 refine q0h (cons:=[cRing,cOff,qjq,cInside]) Tryz.func39 (by kernel_rfl) (by kernel_rfl) mixed (by kernel_rfl) (all_cons qfb (all_cons off_holds (all_cons qfv (all_cons qh2 all_nil)))) (λ_=>[]) λp hp=>?_
 obtain ⟨r,x,y⟩:=p;refine cast ?_ (wh_vc r x y hp)
 kernel_rfl
theorem qly:cWhereOn.Holds Tryz.prog:=⟨qj2.1,λp vs w S hS hp hvs=>qj2.2 p vs w S hS hp.1 hvs⟩
open Go.Lib Go.Sort
theorem one_arg {κ:Cx} {w:World} {a:Comp} {vs:List Value} (h:q0b κ w [a] vs):∃ x,vs=[x]∧a.Rep κ w x:=by
 match vs,h with
 | [x],h =>
  obtain ⟨u,hu,hr⟩:=h.2 0 _ rfl;injection hu with hu;have hu:x=u:=hu;subst hu;exact ⟨_,rfl,hr⟩
theorem tok_at (l:List Lx.Tok) (i:Nat) (t:Lx.Tok) (h:l[i]? = some t) (r:Nat) (hr:r<4):(q51 l)[i*4+r]? = t.cells[r]? := by
 induction l generalizing i with
 | nil=>simp at h
 | cons x l ih =>
  have e:q51 (x::l)=x.cells++q51 l:=rfl;have hl:x.cells.length=4:=rfl;rw [e];cases i with
  | zero =>
   injection h with h;subst h;rw [Nat.zero_mul,Nat.zero_add,List.getElem?_append_left (by omega)]
  | succ i =>
   rw [List.getElem?_append_right (by omega),hl,show (i+1)*4+r-4=i*4+r by omega]
   exact ih i h
section
variable {S:Nat→Prop} {w:World} {v:Value}
theorem tok_row {base:Nat} {l:List Lx.Tok} (h:TokRow w base v l) (hS:∀ g,base≤g→g<w.heap.size→S g):Kd.Rep w S (.sl kTok) (l.map tokP) v:=by
 have hlen:(l.map tokP).length=l.length:=List.length_map ..;rcases h.2 with ⟨rfl,h0⟩ | ⟨g,cap,cur,rfl,hb,hg,hc,_,hsz,ht⟩
 ·refine ⟨none,0,by rw [hlen,h0],by rw [hlen,h0];exact Nat.le_refl _,λhl=>?_⟩
  rw [hlen] at hl;omega
 ·have hlt:g<w.heap.size:=by
   rcases Nat.lt_or_ge g w.heap.size with h' | h'
   ·exact h'
   ·rw [Array.getElem?_eq_none h'] at hg;cases hg
  refine ⟨_,cap,by rw [hlen],by rw [hlen];exact hc,λhl=>⟨g,0,rfl,hlt,hS g hb hlt,λi x hx=>?_⟩⟩
  have hx:(l.map tokP)[i]? = some x:=hx;rw [List.getElem?_map] at hx;cases ht':l[i]? with
  | none=>rw [ht'] at hx;cases hx
  | some t =>
   rw [ht'] at hx;injection hx with hx;subst hx;have hil:i<l.length:=(List.getElem?_eq_some_iff.1 ht').1;have key:∀ r u,r<4→t.cells[r]? = some u→w.cell? ⟨g,0+i*4+r,none⟩=some u:=λr u hr hu=>by
    have h1:=tok_at l i t ht' r hr;rw [hu,← ht,List.getElem?_take,if_pos (by omega),Array.getElem?_toList] at h1
    rw [Nat.zero_add];unfold World.cell?;simp [hg,h1]
   exact ⟨⟨_,key 0 _ (by omega) rfl,rfl⟩,⟨_,key 1 _ (by omega) rfl,rfl⟩,⟨_,key 2 _ (by omega) rfl,rfl⟩,⟨_,key 3 _ (by omega) rfl,rfl⟩⟩
end
theorem lex_holds:cLex.Holds Tryz.prog:=by
 refine ⟨⟨⟨_,Tryz.func43,by kernel_rfl,by kernel_rfl⟩,λF' hF p r hr=>by injection hF with hF;subst hF;exact hr⟩,λs0 vs w S hS hp hvs=>?_⟩
 obtain ⟨v,rfl,hv⟩:=one_arg hvs;obtain ⟨s,rfl⟩:∃ s:List UInt8,s=s0:=⟨s0,rfl⟩;obtain rfl:v=.string (bs s):=hv;have hp:s.length≤1000:=hp;have hsz:(bs s).size≤9223372036854775807:=by rw [qhr];omega
 refine (lex_any (bs s) w hsz).mono ?_;rintro e w' ⟨v,rfl,hrow,hbl⟩;have hrow:TokRow w' w.heap.size v (Lx.lex s).1:=hrow;refine ⟨lexP s,_,rfl,rfl,⟨_,rfl,rfl,?_⟩,hbl⟩;have hr:=tok_row (S:=λg=>S g∨(w.heap.size≤g∧g<w'.heap.size)) hrow (λg h1 h2=>.inr ⟨h1,h2⟩)
 intro i x hx
 match i,hx with
 | 0,hx=>injection hx with hx;subst hx;exact ⟨_,rfl,hr⟩
 | 1,hx=>injection hx with hx;subst hx;exact ⟨_,rfl,rfl⟩
 | 2,hx=>injection hx with hx;subst hx;exact ⟨_,rfl,rfl⟩
set_option maxRecDepth 100000 in
theorem name_holds:cIsName.Holds Tryz.prog:=by
 refine q0h (cons:=[cLex]) Tryz.func23 (by kernel_rfl) (by kernel_rfl) mixed (by kernel_rfl) (all_cons lex_holds all_nil) (λ_=>[]) λp hp=>?_
 refine cast ?_ (name_vc p hp)
 kernel_rfl
set_option maxRecDepth 100000 in
theorem qfj:cKnown.Holds Tryz.prog:=by
 refine q0h (cons:=[]) Tryz.func24 (by kernel_rfl) (by kernel_rfl) mixed (by kernel_rfl) all_nil (λ_=>[]) λp hp=>?_
 refine cast ?_ (kn_vc p)
 kernel_rfl
set_option maxRecDepth 100000 in
theorem q8a:q8r.Holds Tryz.prog:=by
 refine q0h (cons:=[cIsName,cKnown,cRing]) Tryz.func10 (by kernel_rfl) (by kernel_rfl) mixed (by kernel_rfl) (all_cons name_holds (all_cons qfj (all_cons qfb all_nil))) (λp=>anZV p) λp hp=>?_
 refine cast ?_ (zv_vc p hp)
 kernel_rfl
theorem row_grown {w:World} {base:Nat} {e:TypeId} {v:Value} {n:Nat} {cells:List Value} (os:Array Obj) (h:w.ownsRow base e 1 v n cells):(grow w os).ownsRow base e 1 v n cells:=by
 rcases h with ⟨hl,h⟩;refine ⟨hl,?_⟩;rcases h with ⟨e0,h0⟩ | ⟨g,cap,cur,hv,hb,hg,hr⟩
 ·exact .inl ⟨e0,h0⟩
 ·refine .inr ⟨g,cap,cur,hv,hb,?_,hr⟩
  have hlt:g<w.heap.size:=by
   rcases Nat.lt_or_ge g w.heap.size with h' | h'
   ·exact h'
   ·rw [Array.getElem?_eq_none h'] at hg;cases hg
  show (w.heap++os)[g]? = _;rw [Array.getElem?_append_left hlt];exact hg
theorem heap_sorted {α:Type} [Inhabited α] (enc:α→Value) (w:World) (blk off m:Nat) (dk:Array α) (os:Array Obj) {g:Nat} (hg:g<w.heap.size) (hne:g≠blk):(grow (putRow enc (Sort.ahead w m) blk off dk) os).heap[g]? = w.heap[g]? := by
 have:blk≠g:=λe=>hne e.symm
 simp [grow,putRow,mapBlock,Sort.ahead,Array.getElem?_append,Array.getElem_modify,hg,this]
theorem size_sorted {α:Type} [Inhabited α] (enc:α→Value) (w:World) (blk off m:Nat) (dk:Array α) (os:Array Obj):w.heap.size≤(grow (putRow enc (Sort.ahead w m) blk off dk) os).heap.size:=by
 simp [grow,putRow,mapBlock,Sort.ahead]
theorem str_cells {w:World} {S:Nat→Prop}:∀ {xs:List Str} {cells:List Value},cells.length=xs.length→q0c (Cx.of S) w kStr xs cells→cells=xs.map encStr
 | [],cells,hl,_=>List.eq_nil_of_length_eq_zero hl
 | x::xs,[],hl,_=>by cases hl
 | x::xs,u::cells,hl,h=>by
  obtain ⟨u',hu,hr⟩:=h 0 x rfl 0 ⟨Kd.str,x⟩ rfl;have hu:some u=some u':=hu;injection hu with hu;have hr:u'=.string (bs x):=hr;rw [List.map_cons,hu,hr,str_cells (xs:=xs) (cells:=cells) (by injection hl) λi y hy j m hm=>by
   obtain ⟨v,hv,h2⟩:=h (i+1) y hy j m hm;refine ⟨v,?_,h2⟩;have e:(i+1)*kStr.size+j=(i*kStr.size+j)+1:=by show (i+1)*1+j=i*1+j+1;omega
   rw [e] at hv;exact hv]
  rfl
theorem str_row {w:World} {S:Nat→Prop} (xs:List Str):q0c (Cx.of S) w kStr xs (xs.map encStr):=by
 intro i x hx j m hm
 match j,hm with
 | 0,hm =>
  injection hm with hm;subst hm;refine ⟨.string (bs x),?_,rfl⟩;have e:i*kStr.size+0=i:=by show i*1+0=i;omega
  rw [e,List.getElem?_map,hx];rfl
theorem sortS_holds:oSortS.Holds Tryz.prog:=by
 refine ⟨⟨_,Tryz.func40,by kernel_rfl,by kernel_rfl⟩,λxs p b v cells vs fvs w n0 S hn0 hS hvS hown hcells hpre hvs hfa _=>?_⟩
 have hfa:fvs=[]:=hfa;subst hfa;obtain ⟨xs,rfl⟩:∃ q:List Str,q=xs:=⟨xs,rfl⟩;have hp1:xs.length≤1000000:=hpre;have hvs2:vs=[]:=List.eq_nil_of_length_eq_zero hvs.1;subst hvs2;have hown1:w.ownsRow n0 9 1 v xs.length cells:=hown;have hcl:cells.length=xs.length:=by have:=hown1.1;omega
 have hcs:cells=xs.map encStr:=str_cells hcl hcells;by_cases hnil:v=.slice none 0 0
 ·subst hnil
  have h0:xs.length=0:=by
   rcases hown1.2 with ⟨_,h0⟩ | ⟨g,cap,cur,h,_⟩
   ·exact h0
   ·cases h
  have hxs:=List.eq_nil_of_length_eq_zero h0;subst hxs;refine (Tryz.slices_Sort_string_none none 0 w).mono ?_;rintro e w' ⟨rfl,rfl⟩;have e0:q3u ([]:List Str)=[]:=List.mergeSort_nil;refine ⟨⟨rfl,rfl,rfl,Nat.le_refl _,λ_ _ _=>rfl⟩,_,cells,rfl,?_,?_,(λh=>by cases h),λ_=>rfl⟩
  ·show World.ownsRow _ _ _ _ _ (q3u []).length _
   rw [e0];exact hown1
  ·show q0c (Cx.of S) _ kStr (q3u []) cells
   rw [e0];exact hcells
 ·rw [hcs] at hown1
  obtain ⟨g,cap,rfl,hg1,hg2,hc1,hc2,_,hH⟩:=Lib.holds_of_ownsRow hown1 hnil;refine (Tryz.slices_Sort_string g 0 cap xs w hH hg2 (by omega)).mono ?_
  rintro e w' ⟨rfl,n,os,rfl⟩;have hlen:(q3u xs).length=xs.length:=List.length_mergeSort _;have hrow:=ownsRow_putRow (q:=n) (k:=xs.length) (ys:=q3u xs) hown1 hlen (Nat.le_refl _);have hrow:=row_grown os hrow;have htk:(q3u xs).take xs.length=q3u xs:=List.take_of_length_le (by omega)
  rw [htk] at hrow;refine ⟨?_,_,(q3u xs).map encStr,rfl,?_,?_,(λh=>by cases h),λ_=>rfl⟩
  ·refine ⟨rfl,rfl,rfl,size_sorted ..,λk hk hne=>?_⟩
   exact heap_sorted _ _ _ _ _ _ _ hk (λe=>hne (by rw [e];rfl))
  ·show World.ownsRow _ _ _ _ _ (q3u xs).length _
   rw [hlen];exact hrow
  ·exact str_row _
theorem kitLo_ok:kitLo.Ok Tryz.prog where
 cons:=all_cons q8a (all_cons qfj (all_cons qjy (all_cons qly all_nil)))
 ns:=all_nil
 os:=all_cons sortS_holds all_nil
 fcs:=all_nil
 rcs:=all_nil
 inls:=q0g.more Tryz.func38 (by kernel_rfl) (by kernel_rfl) (q0g.more Tryz.func62 (by kernel_rfl) (by kernel_rfl) q0g.nil)
set_option maxHeartbeats 4000000 in
set_option maxRecDepth 100000000 in
theorem qka:cLook.Holds Tryz.prog:=by
 refine q5u (T:=kitLo) (λp=>anLoI p.1 p.2.1 p.2.2) Tryz.func19 (by kernel_rfl) (by kernel_rfl) mixed (by kernel_rfl) kitLo_ok (λ_=>[]) λp hp=>?_
 obtain ⟨l,n,x,y⟩:=p;refine cast ?_ (lo_vc l n x y hp)
 kernel_rfl
set_option maxRecDepth 100000 in
theorem qky:cAll.Holds Tryz.prog:=by
 refine q0h (cons:=[cLook]) Tryz.func6 (by kernel_rfl) (by kernel_rfl) mixed (by kernel_rfl) (all_cons qka all_nil) (λ_=>[]) λp hp=>?_
 obtain ⟨l,n,x,y⟩:=p;refine cast ?_ (all_vc l n x y hp)
 kernel_rfl
set_option maxRecDepth 100000 in
theorem qkc:cOne.Holds Tryz.prog:=by
 refine q0h (cons:=[cLook]) Tryz.func8 (by kernel_rfl) (by kernel_rfl) mixed (by kernel_rfl) (all_cons qka all_nil) (λ_=>[]) λp hp=>?_
 obtain ⟨l,n,x,y⟩:=p;refine cast ?_ (one_vc l n x y hp)
 kernel_rfl
theorem kitAz_ok:kitAz.Ok Tryz.prog where
 cons:=all_cons q8a (all_cons qfj (all_cons apartP_holds all_nil))
 ns:=all_nil
 os:=all_nil
 fcs:=all_nil
 rcs:=all_nil
 inls:=q0g.more Tryz.func38 (by kernel_rfl) (by kernel_rfl) (q0g.more Tryz.func62 (by kernel_rfl) (by kernel_rfl) (q0g.more Tryz.func28 (by kernel_rfl) (by kernel_rfl) (q0g.more Tryz.func29 (by kernel_rfl) (by kernel_rfl) (q0g.more Tryz.func30 (by kernel_rfl) (by kernel_rfl) q0g.nil))))
theorem kitNz_ok:kitNz.Ok Tryz.prog where
 cons:=all_cons q8a (all_cons qfj (all_cons within_holds all_nil))
 ns:=all_nil
 os:=all_nil
 fcs:=all_nil
 rcs:=all_nil
 inls:=q0g.more Tryz.func38 (by kernel_rfl) (by kernel_rfl) (q0g.more Tryz.func62 (by kernel_rfl) (by kernel_rfl) (q0g.more Tryz.func28 (by kernel_rfl) (by kernel_rfl) (q0g.more Tryz.func33 (by kernel_rfl) (by kernel_rfl) (q0g.more Tryz.func34 (by kernel_rfl) (by kernel_rfl) q0g.nil))))
set_option maxHeartbeats 4000000 in
set_option maxRecDepth 100000000 in
theorem qgk:qax.Holds Tryz.prog:=by
 refine q5u (T:=kitAz) (λp=>anAz p.1 p.2) Tryz.func13 (by kernel_rfl) (by kernel_rfl) mixed (by kernel_rfl) kitAz_ok (λ_=>[]) λp hp=>?_
 obtain ⟨l,n⟩:=p;refine cast ?_ (az_vc l n hp)
 kernel_rfl
set_option maxHeartbeats 4000000 in
set_option maxRecDepth 100000000 in
theorem qfr:q8y.Holds Tryz.prog:=by
 refine q5u (T:=kitNz) (λp=>anNz p.1 p.2.1 p.2.2) Tryz.func15 (by kernel_rfl) (by kernel_rfl) mixed (by kernel_rfl) kitNz_ok (λ_=>[]) λp hp=>?_
 obtain ⟨l,n,i⟩:=p;refine cast ?_ (nz_vc l n i hp)
 kernel_rfl
end Go.Proofs.YtednmlmllbkhhaaGreatDoor
namespace Go.Proofs.YtednmlmllbkhhaaGreatDoor
open Go.RowKit R Geo.Zn Zl
abbrev exA:List Ar:=[([(97:UInt8)],(1:Int),boxL (0,0,4,4)),([(98:UInt8)],(1:Int),boxL (4,0,4,4)),([(100:UInt8)],(2:Int),boxL (1,1,2,2))]
abbrev exB:List Ar:=[([(97:UInt8)],(1:Int),boxL (0,0,4,4)),([(98:UInt8)],(1:Int),boxL (4,0,4,4)),([(100:UInt8)],(2:Int),boxL (1,1,2,2)),([(99:UInt8)],(1:Int),boxL (1,1,2,2))]
theorem q7b:FewZ exA:=by unfold FewZ;decide +kernel
theorem exB_few:FewZ exB:=by unfold FewZ;decide +kernel
theorem sort_two {a b:Str} (h:a<b):q3u [a,b]=[a,b]:=by
 have hne:a≠b:=λe=>by subst e;exact List.lt_irrefl a h
 refine qbl (sortZ_lt ?_) ?_ λx=>sortZ_mem
 ·simp [hne]
 ·simp [h]
theorem exA_look:q1j Lx.q03 exA 1 (4,2)=([[97],[98]],false,0):=by
 have h1:(q0k Lx.q03 exA&&(q1f 1&&onB (4,2)))=true:=by decide +kernel
 have h2:(((ofK exA 1).filter (hitZ (4,2))).map λa=>a.1)=[[97],[98]]:=by decide +kernel
 have h3:inZ exA 1 (4,2)=false:=by decide +kernel
 unfold q1j idsZ;rw [h1,h2,h3,sort_two (by decide)];rfl
theorem exB_look:q1j Lx.q03 exB 1 (2,2)=([[97],[99]],true,0):=by
 have h1:(q0k Lx.q03 exB&&(q1f 1&&onB (2,2)))=true:=by decide +kernel
 have h2:(((ofK exB 1).filter (hitZ (2,2))).map λa=>a.1)=[[97],[99]]:=by decide +kernel
 have h3:inZ exB 1 (2,2)=true:=by decide +kernel
 unfold q1j idsZ;rw [h1,h2,h3,sort_two (by decide)];rfl
abbrev qjx:Prop :=
 (((0:Int)≤1∧(1:Int)≤100)∧((0:Int)≤1∧(1:Int)≤100)∧((0:Int)≤2∧(2:Int)≤100)∧(0:Int)≤2∧(2:Int)≤100)
set_option maxRecDepth 100000 in
theorem head_vc :
  (((0:Int)≤0∧(0:Int)≤100)∧((0:Int)≤0∧(0:Int)≤100)∧((0:Int)≤4∧(4:Int)≤100)∧(0:Int)≤4∧(4:Int)≤100)∧(((0:Int)≤4∧(4:Int)≤100)∧((0:Int)≤0∧(0:Int)≤100)∧((0:Int)≤4∧(4:Int)≤100)∧(0:Int)≤4∧(4:Int)≤100)∧qjx∧(([]:List Ar).length+[([(97:UInt8)],(1:Int),boxL ((0:Int),(0:Int),(4:Int),(4:Int))),([(98:UInt8)],(1:Int),boxL ((4:Int),(0:Int),(4:Int),(4:Int))),([(100:UInt8)],(2:Int),boxL ((1:Int),(1:Int),(2:Int),(2:Int)))].length)*(48:Nat)≤(140737488355328:Nat)∧qjx∧(([]++[([(97:UInt8)],(1:Int),boxL ((0:Int),(0:Int),(4:Int),(4:Int))),([(98:UInt8)],(1:Int),boxL ((4:Int),(0:Int),(4:Int),(4:Int))),([(100:UInt8)],(2:Int),boxL ((1:Int),(1:Int),(2:Int),(2:Int)))]).length+[([(99:UInt8)],(1:Int),boxL ((1:Int),(1:Int),(2:Int),(2:Int)))].length)*(48:Nat)≤(140737488355328:Nat)∧FewZ [([(97:UInt8)],(1:Int),boxL ((0:Int),(0:Int),(4:Int),(4:Int))),([(98:UInt8)],(1:Int),boxL ((4:Int),(0:Int),(4:Int),(4:Int))),([(100:UInt8)],(2:Int),boxL ((1:Int),(1:Int),(2:Int),(2:Int)))]∧FewZ [([(97:UInt8)],(1:Int),boxL ((0:Int),(0:Int),(4:Int),(4:Int))),([(98:UInt8)],(1:Int),boxL ((4:Int),(0:Int),(4:Int),(4:Int))),([(100:UInt8)],(2:Int),boxL ((1:Int),(1:Int),(2:Int),(2:Int)))]∧FewZ [([(97:UInt8)],(1:Int),boxL ((0:Int),(0:Int),(4:Int),(4:Int))),([(98:UInt8)],(1:Int),boxL ((4:Int),(0:Int),(4:Int),(4:Int))),([(100:UInt8)],(2:Int),boxL ((1:Int),(1:Int),(2:Int),(2:Int)))]∧FewZ ([]++[([(97:UInt8)],(1:Int),boxL ((0:Int),(0:Int),(4:Int),(4:Int))),([(98:UInt8)],(1:Int),boxL ((4:Int),(0:Int),(4:Int),(4:Int))),([(100:UInt8)],(2:Int),boxL ((1:Int),(1:Int),(2:Int),(2:Int)))]++[([(99:UInt8)],(1:Int),boxL ((1:Int),(1:Int),(2:Int),(2:Int)))])∧FewZ [([(97:UInt8)],(1:Int),boxL ((0:Int),(0:Int),(4:Int),(4:Int))),([(98:UInt8)],(1:Int),boxL ((4:Int),(0:Int),(4:Int),(4:Int))),([(100:UInt8)],(2:Int),boxL ((1:Int),(1:Int),(2:Int),(2:Int)))]∧FewZ [([(97:UInt8)],(1:Int),boxL ((0:Int),(0:Int),(4:Int),(4:Int))),([(98:UInt8)],(1:Int),boxL ((4:Int),(0:Int),(4:Int),(4:Int))),([(100:UInt8)],(2:Int),boxL ((1:Int),(1:Int),(2:Int),(2:Int)))]∧bif (oneZ Lx.q03 [([(97:UInt8)],(1:Int),boxL ((0:Int),(0:Int),(4:Int),(4:Int))),([(98:UInt8)],(1:Int),boxL ((4:Int),(0:Int),(4:Int),(4:Int))),([(100:UInt8)],(2:Int),boxL ((1:Int),(1:Int),(2:Int),(2:Int)))] (1:Int) ((4:Int),(2:Int))).2==(0:Int) then bif (oneZ Lx.q03 [([(97:UInt8)],(1:Int),boxL ((0:Int),(0:Int),(4:Int),(4:Int))),([(98:UInt8)],(1:Int),boxL ((4:Int),(0:Int),(4:Int),(4:Int))),([(100:UInt8)],(2:Int),boxL ((1:Int),(1:Int),(2:Int),(2:Int)))] (1:Int) ((4:Int),(2:Int))).1==[(97:UInt8)] then bif (oneZ Lx.q03 ([]++[([(97:UInt8)],(1:Int),boxL ((0:Int),(0:Int),(4:Int),(4:Int))),([(98:UInt8)],(1:Int),boxL ((4:Int),(0:Int),(4:Int),(4:Int))),([(100:UInt8)],(2:Int),boxL ((1:Int),(1:Int),(2:Int),(2:Int)))]++[([(99:UInt8)],(1:Int),boxL ((1:Int),(1:Int),(2:Int),(2:Int)))]) (1:Int) ((2:Int),(2:Int))).2==(8:Int) then (allZ Lx.q03 [([(97:UInt8)],(1:Int),boxL ((0:Int),(0:Int),(4:Int),(4:Int))),([(98:UInt8)],(1:Int),boxL ((4:Int),(0:Int),(4:Int),(4:Int))),([(100:UInt8)],(2:Int),boxL ((1:Int),(1:Int),(2:Int),(2:Int)))] (1:Int) ((4:Int),(2:Int))).1.length≤(1000000:Nat)∧bif (allZ Lx.q03 [([(97:UInt8)],(1:Int),boxL ((0:Int),(0:Int),(4:Int),(4:Int))),([(98:UInt8)],(1:Int),boxL ((4:Int),(0:Int),(4:Int),(4:Int))),([(100:UInt8)],(2:Int),boxL ((1:Int),(1:Int),(2:Int),(2:Int)))] (1:Int) ((4:Int),(2:Int))).1==[[(97:UInt8)],[(98:UInt8)]] then FewZ [([(97:UInt8)],(1:Int),boxL ((0:Int),(0:Int),(4:Int),(4:Int))),([(98:UInt8)],(1:Int),boxL ((4:Int),(0:Int),(4:Int),(4:Int))),([(100:UInt8)],(2:Int),boxL ((1:Int),(1:Int),(2:Int),(2:Int)))]∧FewZ ([]++[([(97:UInt8)],(1:Int),boxL ((0:Int),(0:Int),(4:Int),(4:Int))),([(98:UInt8)],(1:Int),boxL ((4:Int),(0:Int),(4:Int),(4:Int))),([(100:UInt8)],(2:Int),boxL ((1:Int),(1:Int),(2:Int),(2:Int)))]++[([(99:UInt8)],(1:Int),boxL ((1:Int),(1:Int),(2:Int),(2:Int)))])∧FewZ [([(97:UInt8)],(1:Int),boxL ((0:Int),(0:Int),(4:Int),(4:Int))),([(98:UInt8)],(1:Int),boxL ((4:Int),(0:Int),(4:Int),(4:Int))),([(100:UInt8)],(2:Int),boxL ((1:Int),(1:Int),(2:Int),(2:Int)))]∧FewZ [([(97:UInt8)],(1:Int),boxL ((0:Int),(0:Int),(4:Int),(4:Int))),([(98:UInt8)],(1:Int),boxL ((4:Int),(0:Int),(4:Int),(4:Int))),([(100:UInt8)],(2:Int),boxL ((1:Int),(1:Int),(2:Int),(2:Int)))]∧(!q2e Lx.q03 [([(97:UInt8)],(1:Int),boxL ((0:Int),(0:Int),(4:Int),(4:Int))),([(98:UInt8)],(1:Int),boxL ((4:Int),(0:Int),(4:Int),(4:Int))),([(100:UInt8)],(2:Int),boxL ((1:Int),(1:Int),(2:Int),(2:Int)))] (1:Int) (2:Int))=true else false=true else false=true else false=true else false=true:=by
 delta qjx
 have q1:oneZ Lx.q03 exA 1 (4,2)=([97],0):=by unfold oneZ;rw [exA_look];rfl
 have q2:oneZ Lx.q03 exB 1 (2,2)=([],8):=by unfold oneZ;rw [exB_look];rfl
 have q3:allZ Lx.q03 exA 1 (4,2)=([[97],[98]],0):=by unfold allZ;rw [exA_look]
 have q4:q2e Lx.q03 exA 1 2=false:=by decide +kernel
 show _∧_∧_∧_∧_∧_∧FewZ exA∧FewZ exA∧FewZ exA∧FewZ exB∧FewZ exA∧FewZ exA∧bif (oneZ Lx.q03 exA 1 (4,2)).2==0 then bif (oneZ Lx.q03 exA 1 (4,2)).1==[97] then bif (oneZ Lx.q03 exB 1 (2,2)).2==8 then (allZ Lx.q03 exA 1 (4,2)).1.length≤1000000∧bif (allZ Lx.q03 exA 1 (4,2)).1==[[97],[98]] then FewZ exA∧FewZ exB∧FewZ exA∧FewZ exA∧(!q2e Lx.q03 exA 1 2)=true else false=true else false=true else false=true else false=true
 rw [q1,q2,q3,q4];exact ⟨by decide,by decide,by decide,by decide,by decide,by decide,q7b,q7b,q7b,exB_few,q7b,q7b,by decide,q7b,exB_few,q7b,q7b,rfl⟩
set_option maxRecDepth 100000 in
theorem box_holds:cBox.Holds Tryz.prog:=by
 refine q0h (cons:=[]) Tryz.func17 (by kernel_rfl) (by kernel_rfl) mixed (by kernel_rfl) all_nil (λ_=>[]) λp hp=>?_
 obtain ⟨x,y,w,h⟩:=p;refine cast ?_ (box_vc x y w h hp)
 kernel_rfl
set_option maxRecDepth 100000 in
theorem fewR_holds:cFewR.Holds Tryz.prog:=by
 refine q0h (cons:=[]) Tryz.func18 (by kernel_rfl) (by kernel_rfl) mixed (by kernel_rfl) all_nil (λp=>anFew p.1) λp hp=>?_
 obtain ⟨l,n⟩:=p;obtain rfl:n=6:=hp;refine cast ?_ (fewR_vc l)
 kernel_rfl
set_option maxRecDepth 100000 in
theorem fewZ_holds:cFewZ.Holds Tryz.prog:=by
 refine q0h (cons:=[cFewR]) Tryz.func5 (by kernel_rfl) (by kernel_rfl) mixed (by kernel_rfl) (all_cons fewR_holds all_nil) (λ_=>[]) λp hp=>?_
 refine cast ?_ (fewZ_vc p)
 kernel_rfl
set_option maxRecDepth 100000 in
theorem qi4:cTexts.Holds Tryz.prog:=by
 refine q0h (cons:=[]) Tryz.func12 (by kernel_rfl) (by kernel_rfl) mixed (by kernel_rfl) all_nil (λp=>anTexts p.1 p.2) λp hp=>?_
 obtain ⟨a,b⟩:=p;refine cast ?_ (texts_vc a b hp)
 kernel_rfl
set_option maxHeartbeats 4000000 in
set_option maxRecDepth 100000 in
theorem head25_holds:cHead.Holds Tryz.prog:=by
 refine q0h (cons:=consHd) Tryz.func4 (by kernel_rfl) (by kernel_rfl) mixed (by kernel_rfl) (all_cons box_holds (all_cons (show cOne.lent.Holds Tryz.prog from qkc) (all_cons qky (all_cons qi4 (all_cons (show qax.lent.Holds Tryz.prog from qgk) (all_cons (show q8y.lent.Holds Tryz.prog from qfr) all_nil)))))) (λ_=>[]) λp hp=>?_
 refine cast ?_ head_vc
 kernel_rfl
theorem consMr_ok:∀ c∈consMr,c.Holds Tryz.prog :=
 all_cons head25_holds (all_cons fewZ_holds (all_cons qky (all_cons (show cOne.lent.Holds Tryz.prog from qkc) (all_cons (show q8r.lent.Holds Tryz.prog from q8a) (all_cons qi4 (all_cons (show qax.lent.Holds Tryz.prog from qgk) (all_cons (show q8y.lent.Holds Tryz.prog from qfr)
 (all_cons qir (all_cons (show cRzOne.lent.Holds Tryz.prog from rzOne_holds) (all_cons (show q73.lent.Holds Tryz.prog from q6r) (all_cons (show qei.lent.Holds Tryz.prog from qlo) (all_cons (show qcf.lent.Holds Tryz.prog from qlc) all_nil))))))))))))
set_option maxHeartbeats 4000000 in
set_option maxRecDepth 100000 in
theorem zlmat_holds:cLMat.Holds Tryz.prog:=by
 refine q0h (cons:=consMr) Tryz.func3 (by kernel_rfl) (by kernel_rfl) mixed (by kernel_rfl) consMr_ok (λ_=>[]) λp hp=>?_
 obtain ⟨l,n,i,x,y⟩:=p;refine cast ?_ (zlmat_vc l n i x y hp)
 kernel_rfl
end Go.Proofs.YtednmlmllbkhhaaGreatDoor

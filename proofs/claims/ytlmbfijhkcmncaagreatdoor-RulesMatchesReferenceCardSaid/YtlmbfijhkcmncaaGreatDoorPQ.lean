/-
  Several texts in one: RuV, RuLaws, RuX, R12X, R13X, R14X, RefBytes, RefName, GrA, GrB, GrC, GrD, GrE, GrF, RmA.
-/
import Derived.Test.YtlmbfijhkcmncaaGreatDoorPP
import Derived.Test.YtlmbfijhkcmncaaGreatDoorPO
import Derived.Test.YtlmbfijhkcmncaaGreatDoorPL
import Derived.Test.YtlmbfijhkcmncaaGreatDoorPM
import Derived.Test.YtlmbfijhkcmncaaGreatDoorPD
import Derived.Test.YtlmbfijhkcmncaaGreatDoorPN
open List renaming getD_eq_getElem?_getD→Q0,getElem?_eq_getElem→Q3,drop→Q7,take→Q8,length→Q9,mem_singleton→Qb,getElem_mem→Qc,take_of_length_le→Qd,isPrefixOf_iff_prefix→Qe,all_eq_true→Qh,length_drop→Qi,take_length→Qk,any_eq_true→Ql,mem_cons→Qm,contains_iff_mem→Qo,mem_range→Qq,take_add_one→Qr,mem_append→Qs,range→Qv,all_cons→Qw,take_succ_cons→Qx,mem_cons_self→Qy,length_cons→QC,length_map→QD,all_append→QE,drop_zero→QG
open Go.Lib renaming hid→Qa
open Nat renaming zero_le→Qf,le_refl→Qt
open Bool renaming and_false→Qg,not_eq_true→Qj,and_eq_true→Qn,false_and→Qp
open Int renaming le_refl→Qu,toNat→Qz,toNat_natCast→QA
open UInt8 renaming toNat_lt→QF
open Except renaming error→QH
set_option linter.unusedVariables false
namespace Go.Proofs.YtlmbfijhkcmncaaGreatDoor
open Go.RowKit
open R
attribute [local go_sem] q12 q0q q0s
theorem rules_any (ts:List Rul.TP) (e:Int) (g:Nat) (ty:TypeId) (A:Option Addr) (c n:Nat) (hn:n=ts.length) (w:World) (S:Nat→Prop) (hS:∀ k,S k→k<w.heap.size) (hg:¬ S g) (hb:Blk w g ty #[.slice A n c,.int .i64 e]) (hr:Kd.Rep w S (.sl kTok) ts (.slice A n c)) (hs:q2f (ts,e)) :
    Calls Tryz.prog 35 #[.pointer (some ⟨g,0,none⟩)] w λx w'=>w.grownBy w' (some g) ∧
      ((∃ r v,q1d (ts,e)=.ok r∧x=.returned v∧(CK.comp q0t r).Rep (Cx.of λk=>S k∨(w.heap.size≤k∧k<w'.heap.size)) w' v) ∨
       ∃ a b,q1d (ts,e)=.error (a,b)∧x=.panicked [{ v:=.iface 80 (.agg #[.int .i64 a,.int .i64 b]),recovered:=false }]):=by
  subst hn;have:=rules_holds.2 (ts,e) () g ty #[.slice A ts.length c,.int .i64 e] [] w S hS hg hb ⟨rfl,λi c hc=>?_,λi v hv=>?_⟩ hs ⟨rfl,λi c h=>by cases h⟩
  · refine Calls.mono this ?_
    rintro x w' ⟨hgr,h⟩;refine ⟨hgr,?_⟩;rcases h with ⟨hn,v,ty',us',rfl,hv,_⟩ | ⟨_,y,v,hy,rfl,hv⟩
    · left
      have hn:panE (q1d (ts,e))=none:=hn rfl;cases hx:q1d (ts,e) with
      | error x=>rw [hx] at hn;cases hn
      | ok r =>
        refine ⟨r,v,rfl,rfl,?_⟩;have hv:(CK.comp q0t (resE ([],[],[]) id (q1d (ts,e)))).Rep _ w' v:=hv;rw [hx] at hv;exact hv
    · right
      have hy:panE (q1d (ts,e))=some y:=hy;cases hx:q1d (ts,e) with
      | ok r=>rw [hx] at hy;cases hy
      | error x =>
        rw [hx] at hy;injection hy with hy;subst hy;obtain ⟨a,b⟩:=x;refine ⟨a,b,rfl,?_⟩;obtain ⟨us,rfl,hl,hu⟩:=hv;obtain ⟨u0,e0,r0⟩:=hu 0 ⟨.int .i64,a⟩ rfl;obtain ⟨u1,e1,r1⟩:=hu 1 ⟨.int .i64,b⟩ rfl;obtain rfl:u0=.int .i64 a:=r0;obtain rfl:u1=.int .i64 b:=r1;have hl:us.length=2:=hl
        match us,hl with
        | [p,q],_ =>
          injection e0 with e0;injection e1 with e1;have e0:p=_:=e0;have e1:q=_:=e1;subst e0;subst e1;rfl
  · match i,hc with
    | 0,hc=>injection hc with hc;subst hc;exact ⟨_,rfl,hr⟩
    | 1,hc=>injection hc with hc;subst hc;exact ⟨_,rfl,rfl⟩
  · match i,hv with
    | 0,hv=>injection hv with hv;subst hv;rfl
    | 1,hv=>injection hv with hv;subst hv;rfl
theorem qgg (tm:Array Value) (W:World) (b:Nat) (t0 t1 t2:TypeId) (V:Array Value) (e a:Int) (hV:V.size=3) (p2:tm[2]?.getD undef=.pointer (some ⟨b,0,none⟩)) (p3:tm[3]?.getD undef=.pointer (some ⟨b+1,0,none⟩)) (p4:tm[4]?.getD undef=.pointer (some ⟨b+2,0,none⟩))
  (h0:Blk W b t0 V) (h1:Blk W (b+1) t1 #[.int .i64 e]) (h2:Blk W (b+2) t2 #[.int .i64 a]):(results Tryz.f10 tm).run Tryz.prog W=.ok (.tuple #[.agg V,.int .i64 e,.int .i64 a]) W:=by
 obtain ⟨l⟩:=V;have hV:l.length=3:=hV
 match l,hV,h0 with
 | [x,y,z],_,h0 =>
 have c0:W.cell? ⟨b,0,none⟩=some x:=h0.cell 0;have c1:W.cell? ⟨b,1,none⟩=some y:=h0.cell 1;have c2:W.cell? ⟨b,2,none⟩=some z:=h0.cell 2;have e0:W.cell? ⟨b+1,0,none⟩=some (.int .i64 e):=h1.cell 0;have a0:W.cell? ⟨b+2,0,none⟩=some (.int .i64 a):=h2.cell 0;simp [results,Tryz.results10,p2,p3,p4,asAddr,go_sem,c0,c1,c2,e0,a0]
theorem zero_rep (κ:Cx) (w:World):(CK.comp q0t ([],[],[])).Rep κ w (.agg q92):=by
 refine ⟨_,rfl,rfl,λi c hc=>?_,λi u hu=>?_⟩
 ·match i,hc with
  | 0,hc=>injection hc with hc;subst hc;exact ⟨_,rfl,rfl⟩
  | 1,hc=>injection hc with hc;subst hc;exact ⟨_,rfl,rfl⟩
  | 2,hc=>injection hc with hc;subst hc;exact ⟨_,rfl,none,0,rfl,Qt _,λh=>absurd h (Nat.lt_irrefl _)⟩
 ·match i,hu with
  | 0,hu=>injection hu with hu;subst hu;rfl
  | 1,hu=>injection hu with hu;subst hu;rfl
  | 2,hu=>injection hu with hu;subst hu;rfl
theorem q6h (w:World) (g k i:Nat) (v:Value) (T:TypeId) (cs:Array Value) (h:k≠g) (hb:Blk w k T cs):Blk (w.setCell ⟨g,i,none⟩ v) k T cs:=(Below.heap_setCell w ⟨g,i,none⟩ v k h).trans hb
theorem named_set {w0 W:World} {b:Nat} (hb:Below b w0 W) {t0 t1 t2:TypeId} {V:Array Value} {x y:Value} (hV:V.size=3) (h0:Blk W b t0 V) (h1:Blk W (b+1) t1 #[x]) (h2:Blk W (b+2) t2 #[y]) (p q r:Value) (e a:Int) :
  Blk (((((W.setCell ⟨b,0,none⟩ p).setCell ⟨b,1,none⟩ q).setCell ⟨b,2,none⟩ r).setCell ⟨b+1,0,none⟩ (.int .i64 e)).setCell ⟨b+2,0,none⟩ (.int .i64 a)) b t0 #[p,q,r] ∧
  Blk (((((W.setCell ⟨b,0,none⟩ p).setCell ⟨b,1,none⟩ q).setCell ⟨b,2,none⟩ r).setCell ⟨b+1,0,none⟩ (.int .i64 e)).setCell ⟨b+2,0,none⟩ (.int .i64 a)) (b+1) t1 #[.int .i64 e] ∧
  Blk (((((W.setCell ⟨b,0,none⟩ p).setCell ⟨b,1,none⟩ q).setCell ⟨b,2,none⟩ r).setCell ⟨b+1,0,none⟩ (.int .i64 e)).setCell ⟨b+2,0,none⟩ (.int .i64 a)) (b+2) t2 #[.int .i64 a] ∧
  Below b w0 (((((W.setCell ⟨b,0,none⟩ p).setCell ⟨b,1,none⟩ q).setCell ⟨b,2,none⟩ r).setCell ⟨b+1,0,none⟩ (.int .i64 e)).setCell ⟨b+2,0,none⟩ (.int .i64 a)):=by
 refine ⟨?_,?_,?_,?_⟩
 ·obtain ⟨l⟩:=V
  have hV:l.length=3:=hV
  match l,hV with
  | [u1,u2,u3],_=>exact q6h _ _ _ _ _ _ _ (by omega) (q6h _ _ _ _ _ _ _ (by omega) (((h0.set_ 0 p).set_ 1 q).set_ 2 r))
 ·exact q6h _ _ _ _ _ _ _ (by omega) ((q6h _ _ _ _ _ _ _ (by omega) (q6h _ _ _ _ _ _ _ (by omega) (q6h _ _ _ _ _ _ _ (by omega) h1))).set_ 0 (.int .i64 e))
 ·exact (q6h _ _ _ _ _ _ _ (by omega) (q6h _ _ _ _ _ _ _ (by omega) (q6h _ _ _ _ _ _ _ (by omega) (q6h _ _ _ _ _ _ _ (by omega) h2)))).set_ 0 (.int .i64 a)
 ·exact (((((hb.setCell (p:=⟨b,0,none⟩) (Qt b) _).setCell (p:=⟨b,1,none⟩) (Qt b) _).setCell (p:=⟨b,2,none⟩) (Qt b) _).setCell (p:=⟨b+1,0,none⟩) (show b≤b+1 by omega) _).setCell (p:=⟨b+2,0,none⟩) (show b≤b+2 by omega) _)
set_option maxRecDepth 100000 in
set_option maxHeartbeats 2000000 in
theorem parse_any (s:List UInt8) (w:World) (hs:s.length≤1000000) :
  Calls Tryz.prog 10 #[.string (bs s)] w λe w'=>∃ v,e=.returned (.tuple #[v,.int .i64 (Rul.q2s s).2.1,.int .i64 (Rul.q2s s).2.2])∧(CK.comp q0t (Rul.q2s s).1).Rep (Cx.of λk=>w.heap.size≤k∧k<w'.heap.size) w' v∧Below w.heap.size w w':=by
 have hmf:∀ (fn:Fn) (first cap:Array Value) (w:World),(Instr.makeFunc fn first cap).run Tryz.prog w=.ok (.func fn first cap) w:=λ_ _ _ _=>rfl
 have hsz:(bs s).size≤9223372036854775807:=by rw [q3j];omega
 go_enter_defers Tryz.func10,Tryz.ntmps10
 go_wp2_with fail
 have z2:=((Blk.new w 24 q92).bel (q02 (q03 _) (.cells #[.int .i64 0] 31))).bel (q02 (q03 _) (.cells #[.int .i64 0] 3));have z3:=(Blk.new (w.alloc (.cells q92 24)) 31 #[.int .i64 0]).bel (q02 (q03 _) (.cells #[.int .i64 0] 3));have z4:=Blk.new ((w.alloc (.cells q92 24)).alloc (.cells #[.int .i64 0] 31)) 3 #[.int .i64 0];have hb0:Below w.heap.size w (((w.alloc (.cells q92 24)).alloc (.cells #[.int .i64 0] 31)).alloc (.cells #[.int .i64 0] 3)) :=
  ((q02 (q03 w) _).alloc (by simp) _).alloc (by simp;omega) _
 have hs0:(((w.alloc (.cells q92 24)).alloc (.cells #[.int .i64 0] 31)).alloc (.cells #[.int .i64 0] 3)).heap.size=w.heap.size+3:=by simp
 have hw:((w.alloc (.cells #[.string { data:=#[] },.string { data:=#[] },.slice none 0 0] 24)).alloc (.cells #[.int .i64 0] 31)).alloc (.cells #[.int .i64 0] 3)=((w.alloc (.cells q92 24)).alloc (.cells #[.int .i64 0] 31)).alloc (.cells #[.int .i64 0] 3):=rfl;rw [hw];clear hw;generalize ((w.alloc (.cells q92 24)).alloc (.cells #[.int .i64 0] 31)).alloc (.cells #[.int .i64 0] 3)=w1 at *
 have z3:Blk w1 (w.heap.size+1) 31 #[.int .i64 0]:=by simpa using z3
 have z4:Blk w1 (w.heap.size+2) 3 #[.int .i64 0]:=by simpa using z4
 refine (lex_any (bs s) _ hsz).mono ?_;rintro e w2 ⟨v,rfl,R2,hb2⟩;rw [q2h] at R2;have hsm:=small_lex s s.length;have hp:Rul.q2s s=if (Lx.lex s).2.1==0 then match Rul.q6d s.length ((Lx.lex s).1.map Rul.tp) with
   | .ok r=>(r,0,0)
   | .error x=>(([],[],[]),x.1,x.2)
  else (([],[],[]),(Lx.lex s).2.1,(Lx.lex s).2.2):=rfl
 rw [q2h];obtain ⟨A,c,rfl⟩:=q4a R2;generalize Lx.lex s=L at *
 obtain ⟨l,er,a⟩:=L;dsimp only at *
 have y2:=z2.bel hb2;have y3:=z3.bel hb2;have y4:=z4.bel hb2;have hb:=hb0.trans (hb2.mono (by omega))
 have hs2:=hb2.size;clear z2 z3 z4 hb0 hb2;by_cases he:er=0
 ·have he':(er==0)=true:=by rw [beq_iff_eq];exact he
  rw [he',if_pos rfl] at hp;have hrow:Kd.Rep w2 (λk=>w1.heap.size≤k∧k<w2.heap.size) (.sl kTok) (l.map Rul.tp) (.slice A l.length c):=tok_row R2 λg h1 h2=>⟨h1,h2⟩
  have HP:=Qa hp;have HR:=Qa hrow;have HY2:=Qa y2;have HY3:=Qa y3;have HY4:=Qa y4;have HB:=Qa hb;have HS:=Qa hsm;have d0:w2.cell? ⟨w.heap.size,0,none⟩=some (.string { data:=#[] }):=y2.cell 0;have d1:w2.cell? ⟨w.heap.size,1,none⟩=some (.string { data:=#[] }):=y2.cell 1;have d2:w2.cell? ⟨w.heap.size,2,none⟩=some (.slice none 0 0):=y2.cell 2;have e0:w2.cell? ⟨w.heap.size+1,0,none⟩=some (.int .i64 0):=y3.cell 0;have f0:w2.cell? ⟨w.heap.size+1+1,0,none⟩=some (.int .i64 0):=y4.cell 0;have n0:=y2.frozen 0;have n1:=y2.frozen 1;have n2:=y2.frozen 2;have n3:=y3.frozen 0;have n4:w2.frozen? ⟨w.heap.size+1+1,0,none⟩=false:=y4.frozen 0;clear hp R2 y2 y3 y4 hb hsm he hrow
  go_wp2_with fail
  have hba:=q02 (q03 w2) (.cells #[.slice A l.length c,.int .i64 s.length] 84);have hz:=Blk.new w2 84 #[.slice A l.length c,.int .i64 s.length];have v2:=HY2.out.bel hba;have v3:=HY3.out.bel hba;have v4:=HY4.out.bel hba;have hrr:Kd.Rep (w2.alloc (.cells #[.slice A l.length c,.int .i64 s.length] 84)) (λk=>w1.heap.size≤k∧k<w2.heap.size) (.sl kTok) (l.map Rul.tp) (.slice A l.length c) :=
   Kd.Rep.keeps (Keeps.below hba _) (λg h _=>h) (.sl kTok) _ _ HR.out
  have hbn:=HB.out.trans (hba.mono HB.out.size);have hwn:(w2.alloc (.cells #[.slice A l.length c,.int .i64 s.length] 84)).heap.size=w2.heap.size+1:=by simp
  generalize w2.alloc (.cells #[.slice A l.length c,.int .i64 s.length] 84)=wn at *
  refine (rules_any (l.map Rul.tp) s.length w2.heap.size _ A c _ (QD _).symm wn (λk=>w1.heap.size≤k∧k<w2.heap.size) (λk h=>by have:=h.2;omega) (λh=>absurd h.2 (Nat.lt_irrefl _)) hz hrr HS.out).mono ?_
  rintro x w3 ⟨hgr,h⟩;have hg3:=hgr.size;have u2:=v2.grown hgr (λe=>by injection e with e;have:=v2.lt;omega)
  have u3:=v3.grown hgr (λe=>by injection e with e;have:=v3.lt;omega)
  have u4:=v4.grown hgr (λe=>by injection e with e;have:=v4.lt;omega)
  have hb3:Below w.heap.size w w3:=hbn.grown hgr (by omega) (λk hk=>by injection hk with hk;omega)
  have U2:=Qa u2;have U3:=Qa u3;have U4:=Qa u4;have HB3:=Qa hb3;have d0:w3.cell? ⟨w.heap.size,0,none⟩=some (.string { data:=#[] }):=u2.cell 0;have d1:w3.cell? ⟨w.heap.size,1,none⟩=some (.string { data:=#[] }):=u2.cell 1;have d2:w3.cell? ⟨w.heap.size,2,none⟩=some (.slice none 0 0):=u2.cell 2;have e0:w3.cell? ⟨w.heap.size+1,0,none⟩=some (.int .i64 0):=u3.cell 0;have f0:w3.cell? ⟨w.heap.size+1+1,0,none⟩=some (.int .i64 0):=u4.cell 0;have n0:=u2.frozen 0;have n1:=u2.frozen 1;have n2:=u2.frozen 2;have n3:=u3.frozen 0;have n4:w3.frozen? ⟨w.heap.size+1+1,0,none⟩=false:=u4.frozen 0;clear u2 u3 u4 v2 v3 v4 hb3 hbn hba hz hrr hgr;have hm0:Rul.q6d s.length (l.map Rul.tp)=q1d (l.map Rul.tp,s.length):=rfl;rcases h with ⟨r,v,hok,rfl,hv⟩ | ⟨ea,eb,hbad,rfl⟩
  ·obtain ⟨u,rfl,hru⟩:=rulV_out (λg hg=>by
    rcases hg with hg | hg
    ·have:=hg.2;omega
    ·exact hg.2) hv
   obtain ⟨A2,c2,rfl⟩:=hru.slice;clear hru;rw [hm0,hok] at HP;have HV:=Qa hv;clear hv hok hm0;unfold rulV
   go_wp2
   refine leaves_cons (f:=34) (args:=#[.pointer (some ⟨w.heap.size,0,none⟩),.pointer (some ⟨w.heap.size+1,0,none⟩),.pointer (some ⟨w.heap.size+2,0,none⟩)]) (by simp) (by simp [go_sem]) ?_
   refine (catch_idle _ _ _ _).mono ?_;rintro e u' w5 ⟨rfl,rfl,hb5⟩;obtain ⟨x1,x2,x3,x4⟩:=named_set HB3.out rfl U2.out U3.out U4.out (.string (bs r.1)) (.string (bs r.2.1)) (.slice A2 r.2.2.length c2) 0 0;have hk:Keeps w3 (((((w3.setCell ⟨w.heap.size,0,none⟩ (.string (bs r.1))).setCell ⟨w.heap.size,1,none⟩ (.string (bs r.2.1))).setCell ⟨w.heap.size,2,none⟩ (.slice A2 r.2.2.length c2)).setCell ⟨w.heap.size+1,0,none⟩ (.int .i64 0)).setCell ⟨w.heap.size+2,0,none⟩ (.int .i64 0)) (λk=>(w1.heap.size≤k∧k<w2.heap.size)∨(wn.heap.size≤k∧k<w3.heap.size)) :=
    ((((Keeps.set (by dsimp only;omega) _).trans (Keeps.set (by dsimp only;omega) _)).trans (Keeps.set (by dsimp only;omega) _)).trans (Keeps.set (by dsimp only;omega) _)).trans (Keeps.set (by dsimp only;omega) _)
   refine ⟨_,qgg _ _ _ _ _ _ _ _ _ rfl rfl rfl rfl (x1.bel hb5) (x2.bel hb5) (x3.bel hb5),?_⟩;rw [HP.out];have hsz5:=hb5.size;refine ⟨_,rfl,?_,x4.trans (hb5.mono x4.size)⟩;refine Comp.Rep.mono (κ:=Cx.of λk=>(w1.heap.size≤k∧k<w2.heap.size)∨(wn.heap.size≤k∧k<w3.heap.size)) (w:=w3) (λc v hc=>Cell.Rep.keeps (κ:=Cx.of λk=>(w1.heap.size≤k∧k<w2.heap.size)∨(wn.heap.size≤k∧k<w3.heap.size)) (κ':=Cx.of λk=>w.heap.size≤k∧k<w5.heap.size) rfl rfl rfl (hk.trans (Keeps.below hb5 _)) (λg hg hlt=>?_) hc) HV.out
   have hkz:=Nat.le_trans hk.size hsz5;exact ⟨by rcases hg with hg | hg <;> omega,by omega⟩
  ·rw [hm0,hbad] at HP
   clear hbad hm0
   go_wp2
   refine leaves_cons (f:=34) (args:=#[.pointer (some ⟨w.heap.size,0,none⟩),.pointer (some ⟨w.heap.size+1,0,none⟩),.pointer (some ⟨w.heap.size+2,0,none⟩)]) (by simp) (by simp [go_sem]) ?_
   refine (catch_fault w.heap.size ea eb [] w3 U2.out U3.out U4.out).mono ?_;rintro e u' w5 ⟨rfl,rfl,⟨t0,x1⟩,⟨t1,x2⟩,⟨t2,x3⟩,x4⟩;refine ⟨_,qgg _ _ _ _ _ _ _ _ _ rfl rfl rfl rfl x1 x2 x3,?_⟩;rw [HP.out];exact ⟨_,rfl,zero_rep _ _,HB3.out.trans x4⟩
 ·have he':(er==0)=false:=by rw [beq_eq_false_iff_ne];exact he
  rw [he'] at hp;have HP:=Qa hp;have HR:=Qa R2;have HY2:=Qa y2;have HY3:=Qa y3;have HY4:=Qa y4;have HB:=Qa hb;have HS:=Qa hsm;have d0:w2.cell? ⟨w.heap.size,0,none⟩=some (.string { data:=#[] }):=y2.cell 0;have d1:w2.cell? ⟨w.heap.size,1,none⟩=some (.string { data:=#[] }):=y2.cell 1;have d2:w2.cell? ⟨w.heap.size,2,none⟩=some (.slice none 0 0):=y2.cell 2;have e0:w2.cell? ⟨w.heap.size+1,0,none⟩=some (.int .i64 0):=y3.cell 0;have f0:w2.cell? ⟨w.heap.size+1+1,0,none⟩=some (.int .i64 0):=y4.cell 0;have n0:=y2.frozen 0;have n1:=y2.frozen 1;have n2:=y2.frozen 2;have n3:=y3.frozen 0;have n4:w2.frozen? ⟨w.heap.size+1+1,0,none⟩=false:=y4.frozen 0;clear hp R2 y2 y3 y4 hb hsm he
  go_wp2
  obtain ⟨w1,w2,w3,w4⟩:=named_set HB.out rfl HY2.out HY3.out HY4.out (.string { data:=#[] }) (.string { data:=#[] }) (.slice none 0 0) er a;refine ⟨_,qgg _ _ _ _ _ _ _ _ _ rfl rfl rfl rfl w1 w2 w3,?_⟩;rw [HP.out];exact ⟨_,rfl,zero_rep _ _,w4⟩
def cParse:Con:=.of 10 [q3a] [q0t,q3l,q3l] (λs=>Q9 s≤1000000) Rul.q2s
theorem qi1:cParse.Holds Tryz.prog:=by
 refine ⟨⟨⟨_,Tryz.func10,by kernel_rfl,by kernel_rfl⟩,λF' hF p r hr=>by injection hF with hF;subst hF;exact hr⟩,λs vs w S hS hp hvs=>?_⟩
 obtain ⟨v,rfl,hv⟩:=qdb hvs;obtain rfl:v=.string (bs s):=hv;refine (parse_any s w hp).mono ?_;rintro e w' ⟨v,rfl,hv,hbl⟩;refine ⟨Rul.q2s s,_,rfl,rfl,⟨_,rfl,rfl,?_⟩,hbl⟩;have hv2:(CK.comp q0t (Rul.q2s s).1).Rep (Cx.of λk=>S k∨(w.heap.size≤k∧k<w'.heap.size)) w' v :=
  Comp.Rep.mono (λc v hc=>Cell.Rep.keeps (κ:=Cx.of λk=>w.heap.size≤k∧k<w'.heap.size) (κ':=Cx.of λk=>S k∨(w.heap.size≤k∧k<w'.heap.size)) rfl rfl rfl (Keeps.refl w' _) (λg hg _=>.inr hg) hc) hv
 intro i x hx
 match i,hx with
 | 0,hx=>injection hx with hx;subst hx;exact ⟨_,rfl,hv2⟩
 | 1,hx=>injection hx with hx;subst hx;exact ⟨_,rfl,rfl⟩
 | 2,hx=>injection hx with hx;subst hx;exact ⟨_,rfl,rfl⟩
end Go.Proofs.YtlmbfijhkcmncaaGreatDoor
namespace Go.Proofs.YtlmbfijhkcmncaaGreatDoor
namespace Lx
theorem qkq (p:UInt8→Bool):∀ r:List UInt8,r.take (span p r)=r.takeWhile p
 | []=>rfl
 | a::r=>by
  unfold span;rw [List.takeWhile_cons];split
  ·rw [QC,Qx]
   exact congrArg _ (qkq p r)
  ·rfl
theorem name_of_scan {l:List UInt8} (he:(scan l).err=0) (hk:(scan l).kind=1):q0j (scan l).text=true:=by
 cases l with
 | nil=>exact absurd he (by decide)
 | cons c r =>
  rw [scan] at he hk ⊢;split at he
  ·rename_i hc
   simp only [] at he hk ⊢;rw [if_pos hc];split at he
   ·cases he
   ·rename_i hm
    rw [if_neg hm];have hs:(c::r).take (span isWord r+1)=c::r.takeWhile isWord:=by
     rw [Qx,qkq]
    show q0j ((c::r).take (span isWord r+1))=true;rw [hs];have hl:(r.takeWhile isWord).length+1≤24:=by
     have:(r.takeWhile isWord).length=span isWord r:=rfl
     omega
    unfold q0j;rw [Qn,Qn,Qn,decide_eq_true_iff,decide_eq_true_iff,Qw,Qn];refine ⟨⟨⟨by unfold isWord;rw [hc];rfl,?_⟩,by simp,by rw [QC];exact hl⟩,hc⟩
    rw [Qh];intro x hx;exact Qh.1 List.all_takeWhile x hx
  ·rename_i hc
   exfalso
   rw [if_neg hc] at hk;simp only [] at he hk;split at he <;> rename_i h1
   ·rw [if_pos h1] at hk
    split at he <;> rename_i h2
    ·cases he
    ·rw [if_neg h2] at hk;cases hk
   ·rw [if_neg h1] at hk
    split at he <;> rename_i h2
    ·rw [if_pos h2] at hk
     split at he <;> rename_i h3
     ·rw [if_pos h3] at hk
      split at he <;> rename_i h4
      ·cases he
      ·rw [if_neg h4] at hk;cases hk
     ·cases he
    ·rw [if_neg h2] at hk
     split at he <;> rename_i h3
     ·rw [if_pos h3] at hk;cases hk
     ·rw [if_neg h3] at hk
      split at he <;> rename_i h4
      ·rw [if_pos h4] at hk;cases hk
      ·cases he
theorem LexOk.names {o:Nat} {l:List UInt8} {ts:List Tok} (h:LexOk o l ts):∀ t∈ts,t.kind=1→q0j t.text=true:=by
 induction h with
 | done=>intro t ht;cases ht
 | tok o l ts h he hr ih =>
  intro t ht hk;rcases Qm.1 ht with rfl | ht
  ·exact name_of_scan he hk
  ·exact ih t ht hk
theorem LexOk.pos {o:Nat} {l:List UInt8} {ts:List Tok} (h:LexOk o l ts):∀ t∈ts,t.pos≤((o+l.length:Nat):Int):=by
 induction h with
 | done=>intro t ht;cases ht
 | tok o l ts h he hr ih =>
  intro t ht;have hg:=q7j l;have hw:=width_le he;rw [Qi] at hw;rcases Qm.1 ht with rfl | ht
  ·show ((o+gap l:Nat):Int)≤_
   omega
  ·have:=ih t ht
   rw [Qi] at this;omega
theorem LexErr.pos {o:Nat} {l:List UInt8} {e:Int} {a:Nat} (h:LexErr o l e a):a≤o+l.length:=by
 induction h with
 | here o l h he =>
  have:=q7j l
  omega
 | later o l e a h he hr ih =>
  have hg:=q7j l;have hw:=width_le he;rw [Qi] at hw ih;omega
end Lx
namespace Rul
def Good {α:Type} (n:Int):Except Flt (α×List TP)→Prop
 | .ok x=>∀ t∈x.2,t.2.1≤n
 | .error x=>x.2≤n
theorem Good.bind {α β:Type} {n:Int} {x:Except Flt (α×List TP)} {f:α×List TP→Except Flt (β×List TP)} (hx:Good n x) (hf:∀ a,x=.ok a→(∀ t∈a.2,t.2.1≤n)→Good n (f a)):Good n (x.bind f):=by
 cases x with
 | error y=>exact hx
 | ok a=>exact hf a rfl hx
theorem next_good {e n:Int} {ts:List TP} (he:e≤n) (h:∀ t∈ts,t.2.1≤n):(q14 e ts).2.1≤n:=by
 cases ts with
 | nil=>exact he
 | cons t r=>exact h t Qy
theorem q49 {e n k:Int} {s:Str} {ts:List TP} (he:e≤n) (h:∀ t∈ts,t.2.1≤n):Good n (q05 e k s ts):=by
 unfold q05;split
 ·exact he
 ·split
  ·exact next_good he h
  ·intro t ht
   exact h t (List.mem_of_mem_drop ht)
theorem take_fst {e n k:Int} {s:Str} {ts:List TP} {x:TP×List TP} (h:∀ t∈ts,t.2.1≤n) (hx:q05 e k s ts=.ok x):x.1.2.1≤n:=by
 obtain ⟨r,h1,_⟩:=q3o hx;exact h _ (by rw [h1];exact Qy)
theorem qg7 {e n lo hi:Int} {ts:List TP} (he:e≤n) (h:∀ t∈ts,t.2.1≤n):Good n (q3k e lo hi ts):=by
 refine (q49 he h).bind λa ha hr=>?_
 have:=take_fst h ha
 show Good n (if q0e a.1.2.2.2 lo hi then _ else _)
 split
 ·exact hr
 ·exact this
theorem tail_good {e n:Int} {f t:Str} {ts:List TP} (he:e≤n) (h:∀ t∈ts,t.2.1≤n):Good n (q5d e f t ts):=by
 unfold q5d;split
 ·split
  ·exact (q49 he h).bind λa _ hr=>(qg7 he hr).bind λb _ hr=>hr
  ·split
   ·exact (q49 he h).bind λa _ hr=>(q49 he hr).bind λb _ hr=>hr
   ·exact h
 ·exact h
theorem rule_good {e n:Int} {ts:List TP} (he:e≤n) (h:∀ t∈ts,t.2.1≤n):Good n (q62 e ts) :=
 (qg7 he h).bind λa _ hr=>(q49 he hr).bind λb _ hr=>(qg7 he hr).bind λc _ hr=>tail_good he hr
theorem more_good {e n:Int} {acc:List Rule} {ts:List TP} (he:e≤n) (h:∀ t∈ts,t.2.1≤n):Good n (q39 e acc ts):=by
 unfold q39;split
 ·exact next_good he h
 ·refine (rule_good he h).bind λa _ hr=>(q49 he hr).bind λb hb hr2=>?_
  have:=take_fst hr hb
  show Good n (if acc.contains a.1 then _ else _)
  split
  ·exact this
  ·exact hr2
theorem list_good {e n:Int} (he:e≤n) (h0:0≤n):∀ (f:Nat) (acc:List Rule) (ts:List TP) (x:Flt),(∀ t∈ts,t.2.1≤n)→q1v f e acc ts=.error x→x.2≤n
 | 0,acc,ts,x,_,h=>by injection h with h;rw [← h];exact h0
 | f+1,acc,ts,x,hts,h=>by
  have h:(if acc.length==0||decide (0<ts.length) then (q39 e acc ts).bind λx=>q1v f e x.1 x.2 else .ok acc)=QH x:=h
  split at h
  ·have hg:=more_good (acc:=acc) he hts
   cases hm:q39 e acc ts with
   | error y=>rw [hm] at h hg;injection h with h;rw [← h];exact hg
   | ok y=>rw [hm] at h hg;exact list_good he h0 f y.1 y.2 x hg h
  ·cases h
theorem rules_good {e:Int} (h0:0≤e) {ts:List TP} {x:Flt} (hts:∀ t∈ts,t.2.1≤e) (h:q6d e ts=.error x):x.2≤e:=by
 have he:=Qu e;have hg:Good e (match q5w e ts with | .ok y=>.ok ((y.1,y.2.1),y.2.2) | .error y=>.error y):=by
  have:Good e ((q05 e 1 q4o ts).bind λx=>(q05 e 1 [] x.2).bind λa=>(q05 e 1 wTo a.2).bind λy=>(q05 e 1 [] y.2).bind λb=>(q05 e 4 [59] b.2).bind λz=>.ok ((a.1.2.2.2,b.1.2.2.2),z.2)) :=
   (q49 he hts).bind λa _ hr=>(q49 he hr).bind λb _ hr=>(q49 he hr).bind λc _ hr=>(q49 he hr).bind λd _ hr=>(q49 he hr).bind λf _ hr=>hr
  unfold q5w;cases h1:q05 e 1 q4o ts with
  | error y=>rw [h1] at this;exact this
  | ok y =>
   rw [h1] at this;rw [q2w] at this ⊢;cases h2:q05 e 1 [] y.2 with
   | error y=>rw [h2] at this;exact this
   | ok y2 =>
    rw [h2] at this;rw [q2w] at this ⊢;cases h3:q05 e 1 wTo y2.2 with
    | error y=>rw [h3] at this;exact this
    | ok y3 =>
     rw [h3] at this;rw [q2w] at this ⊢;cases h4:q05 e 1 [] y3.2 with
     | error y=>rw [h4] at this;exact this
     | ok y4 =>
      rw [h4] at this;rw [q2w] at this ⊢;cases h5:q05 e 4 [59] y4.2 with
      | error y=>rw [h5] at this;exact this
      | ok y5=>rw [h5] at this;exact this
 unfold q6d at h;cases hh:q5w e ts with
 | error y=>rw [hh] at h hg;injection h with h;rw [← h];exact hg
 | ok y =>
  rw [hh] at h hg;rw [q2w] at h;cases hl:q1v (y.2.2.length+1) e [] y.2.2 with
  | error z =>
   rw [hl] at h;injection h with h;rw [← h];exact list_good he h0 _ _ _ _ hg hl
  | ok z=>rw [hl] at h;cases h
theorem parse_out {s:Str} (hs:s.length≤5000):((q2s s).2.1=0∧(q2s s).2.2=0∧q04 (q2s s).1=true)∨((q2s s).2.1≠0∧(q2s s).1=([],[],[])∧(q2s s).2.2≤s.length):=by
 unfold q2s;rcases Lx.qfx s hs with ⟨ts,h1,h2⟩ | ⟨e,a,h1,h2⟩
 ·rw [h2]
  rw [if_pos (by rfl)]
  cases hr:q6d s.length (ts.map tp) with
  | error x =>
   right
   have hp:=rules_good (by omega) (λt ht=>by
    obtain ⟨t',h3,rfl⟩:=List.mem_map.1 ht;have:=h1.pos t' h3;rw [Nat.zero_add] at this;exact this) hr
   refine ⟨?_,rfl,hp⟩;show x.1≠0;have he:∀ {e k:Int} {s:Str} {ts:List TP} {y:Flt},q05 e k s ts=.error y→y.1≠0:=by
    intro e k s ts y h;unfold q05 at h;split at h
    ·injection h with h;rw [← h];show (6:Int)≠0;omega
    ·split at h
     ·injection h with h;rw [← h];show (5:Int)≠0;omega
     ·cases h
   have ht:∀ {e lo hi:Int} {ts:List TP} {y:Flt},q3k e lo hi ts=.error y→y.1≠0:=by
    intro e lo hi ts y h;unfold q3k at h;cases h1:q05 e 3 [] ts with
    | error z=>rw [h1] at h;injection h with h;rw [← h];exact he h1
    | ok z =>
     rw [h1,q2w] at h;split at h
     ·cases h
     ·injection h with h;rw [← h];show (1:Int)≠0;omega
   have htl:∀ {e:Int} {f t:Str} {ts:List TP} {y:Flt},q5d e f t ts=.error y→y.1≠0:=by
    intro e f t ts y h;unfold q5d at h;split at h
    ·split at h
     ·cases h1:q05 e 1 q76 ts with
      | error z=>rw [h1] at h;injection h with h;rw [← h];exact he h1
      | ok z =>
       rw [h1,q2w] at h;cases h2:q3k e 1 30 z.2 with
       | error u=>rw [h2] at h;injection h with h;rw [← h];exact ht h2
       | ok u=>rw [h2] at h;cases h
     ·split at h
      ·cases h1:q05 e 1 wAt ts with
       | error z=>rw [h1] at h;injection h with h;rw [← h];exact he h1
       | ok z =>
        rw [h1,q2w] at h;cases h2:q05 e 1 wEnd z.2 with
        | error u=>rw [h2] at h;injection h with h;rw [← h];exact he h2
        | ok u=>rw [h2] at h;cases h
      ·cases h
    ·cases h
   have hru:∀ {e:Int} {ts:List TP} {y:Flt},q62 e ts=.error y→y.1≠0:=by
    intro e ts y h;unfold q62 at h;cases h1:q3k e 1 9 ts with
    | error z=>rw [h1] at h;injection h with h;rw [← h];exact ht h1
    | ok z =>
     rw [h1,q2w] at h;cases h2:q05 e 1 wTo z.2 with
     | error u=>rw [h2] at h;injection h with h;rw [← h];exact he h2
     | ok u =>
      rw [h2,q2w] at h;cases h3:q3k e 0 9 u.2 with
      | error v=>rw [h3] at h;injection h with h;rw [← h];exact ht h3
      | ok v=>rw [h3,q2w] at h;exact htl h
   have hmo:∀ {e:Int} {acc:List Rule} {ts:List TP} {y:Flt},q39 e acc ts=.error y→y.1≠0:=by
    intro e acc ts y h;unfold q39 at h;split at h
    ·injection h with h;rw [← h];show (2:Int)≠0;omega
    ·cases h1:q62 e ts with
     | error z=>rw [h1] at h;injection h with h;rw [← h];exact hru h1
     | ok z =>
      rw [h1,q2w] at h;cases h2:q05 e 4 [59] z.2 with
      | error u=>rw [h2] at h;injection h with h;rw [← h];exact he h2
      | ok u =>
       rw [h2,q2w] at h;split at h
       ·injection h with h;rw [← h];show (8:Int)≠0;omega
       ·cases h
   have hli:∀ (e:Int) (f:Nat) (acc:List Rule) (ts:List TP) (y:Flt),ts.length<f→acc.length≤80→acc.all q1g=true→once acc=true→q1v f e acc ts=.error y→y.1≠0:=by
    intro e f
    induction f with
    | zero=>intro acc ts y h;omega
    | succ f ih =>
     intro acc ts y hf ha hok ho h;have h:(if acc.length==0||decide (0<ts.length) then (q39 e acc ts).bind λx=>q1v f e x.1 x.2 else .ok acc)=QH y:=h
     split at h
     ·cases h1:q39 e acc ts with
      | error z=>rw [h1] at h;injection h with h;rw [← h];exact hmo h1
      | ok z =>
       rw [h1,q2w] at h;obtain ⟨q1,_,q3,q4,q5⟩:=qeb h1 ha hok ho;exact ih z.1 z.2 y (by omega) q3 q4 q5 h
     ·cases h
   unfold q6d at hr;cases hh:q5w (s.length:Int) (ts.map tp) with
   | ok y =>
    rw [hh,q2w] at hr;cases hl:q1v (y.2.2.length+1) s.length [] y.2.2 with
    | ok z=>rw [hl] at hr;cases hr
    | error z =>
     rw [hl] at hr;injection hr with hr;rw [← hr];exact hli _ _ _ _ _ (Nat.lt_succ_self _) (by simp) rfl rfl hl
   | error y =>
    rw [hh] at hr;injection hr with hr;rw [← hr];unfold q5w at hh;cases h1:q05 (s.length:Int) 1 q4o (ts.map tp) with
    | error z=>rw [h1] at hh;injection hh with hh;rw [← hh];exact he h1
    | ok y1 =>
     rw [h1,q2w] at hh;cases h2:q05 (s.length:Int) 1 [] y1.2 with
     | error z=>rw [h2] at hh;injection hh with hh;rw [← hh];exact he h2
     | ok y2 =>
      rw [h2,q2w] at hh;cases h3:q05 (s.length:Int) 1 wTo y2.2 with
      | error z=>rw [h3] at hh;injection hh with hh;rw [← hh];exact he h3
      | ok y3 =>
       rw [h3,q2w] at hh;cases h4:q05 (s.length:Int) 1 [] y3.2 with
       | error z=>rw [h4] at hh;injection hh with hh;rw [← hh];exact he h4
       | ok y4 =>
        rw [h4,q2w] at hh;cases h5:q05 (s.length:Int) 4 [59] y4.2 with
        | error z=>rw [h5] at hh;injection hh with hh;rw [← hh];exact he h5
        | ok y5=>rw [h5] at hh;cases hh
  | ok x =>
   left
   refine ⟨rfl,rfl,?_⟩;show q04 x=true;unfold q6d at hr;cases hh:q5w (s.length:Int) (ts.map tp) with
   | error y=>rw [hh] at hr;cases hr
   | ok y =>
    rw [hh,q2w] at hr;cases hl:q1v (y.2.2.length+1) s.length [] y.2.2 with
    | error z=>rw [hl] at hr;cases hr
    | ok z =>
     rw [hl] at hr;injection hr with hr;obtain ⟨q1,q2,q3,q4⟩:=listM_ok _ _ _ _ _ hl (by simp) rfl rfl
     obtain ⟨a,b,t1,t2,t3,k1,k2,k3,k4,k5⟩:=headM_ok hh;have hn:∀ t:TP,t∈ts.map tp→t.1=1→Lx.q0j t.2.2.2=true:=λt ht h1t=>by
      obtain ⟨t',h3,rfl⟩:=List.mem_map.1 ht;exact h1.names t' h3 h1t
     rw [← hr];refine formed_in ?_ ?_ q1 q2 q3 q4
     ·rw [k4];exact hn a (by rw [k1];simp) k2
     ·rw [k5];exact hn b (by rw [k1];simp) k3
 ·rw [h2]
  have hne:=h1.ne;rw [if_neg (by rw [beq_iff_eq];exact hne)]
  right
  have:=h1.pos
  exact ⟨hne,rfl,by show (a:Int)≤_;omega⟩
end Rul
open Go.RowKit R
def cTexts:Con:=.of 14 [ckStrs,ckStrs] [.one .bool] (λp=>Q9 p.1≤1000000000∧Q9 p.2≤1000000000) (λp=>p.1==p.2)
def anTexts (a b:List (List UInt8)):List (Nat×Ann):=[ann 0 Nat [0,1] (λk=>[(5,R.int .i64 k)]) (λk=>k≤a.length∧a.take k=b.take k) (λk=>a.length-k)]
def cSame:Con:=.of 15 [q0t,q0t] [.one .bool] (λp=>Q9 p.1.2.2≤1000000000∧Q9 p.2.2.2≤1000000000) (λp=>p.1.1==p.2.1&&(p.1.2.1==p.2.2.1&&p.1.2.2==p.2.2.2))
def anSame (a b:List Rul.Rule):List (Nat×Ann):=[ann 0 Nat [2,3] (λk=>[(5,R.int .i64 k)]) (λk=>k≤a.length∧a.take k=b.take k) (λk=>a.length-k)]
def q5t (x:Rul.Rule):Bool:=decide (x.1.length≤60)&&(decide (x.2.1.length≤60)&&decide (x.2.2.1.length≤60))
def q2p (r:Rul.q11):Bool:=decide (r.2.2.length≤90)&&(r.2.2.all q5t&&(decide (r.1.length≤60)&&decide (r.2.1.length≤60)))
def BigR (r:Rul.q11):Prop:=CK.Big q0t r
def BigA (p:AlP):Prop:=CK.Big ckAl p
def cFewR:Con:=.of 18 [q0t] [.one .bool] BigR q2p
def anFew (r:Rul.q11):List (Nat×Ann):=[ann 0 Nat [1] (λk=>[(3,R.int .i64 k)]) (λk=>k≤r.2.2.length∧k≤90∧(r.2.2.take k).all q5t=true) (λk=>r.2.2.length-k)]
def q1x (p:AlP):Bool:=decide (p.2.1.length≤70)&&(p.2.1.all (λl=>decide (Q9 l≤20))&&(decide (p.2.2.length≤70)&&decide (p.1.length≤100)))
def cFewAl:Con:=.of 19 [ckAl] [.one .bool] BigA q1x
def anFewAl (ls:List (List UInt8)):List (Nat×Ann):=[ann 0 Nat [1] (λk=>[(3,R.int .i64 k)]) (λk=>k≤ls.length∧k≤70∧(ls.take k).all (λl=>decide (Q9 l≤20))=true) (λk=>ls.length-k)]
def cIntsR:Con:=.of 52 [q55,q55] [.one .bool] (λp=>Q9 p.1≤1000000000000000∧Q9 p.2≤1000000000000000) (λp=>p.1==p.2)
def anIntsR (a b:List Int):List (Nat×Ann):=[ann 0 Nat [0,1] (λk=>[(5,R.int .i64 k)]) (λk=>k≤a.length∧a.take k=b.take k) (λk=>a.length-k)]
def cFewA11:Con:=.of 5 [q0t,ckAl,ckAl,q3a] [.one .bool] (λp=>BigR p.1∧BigA p.2.1∧BigA p.2.2.1) (λp=>q2p p.1&&(q1x p.2.1&&(q1x p.2.2.1&&decide (Q9 p.2.2.2≤100))))
def cLetters:Con:=.of 16 [q3a,q3a,q3a,q3a] [ckAl] (λ_=>True) (λp=>(p.1,[p.2.1,p.2.2.1,p.2.2.2],[0,1,2]))
def exR:Rul.q11:=([112],[113],[([97],[120],[],false),([98],[121],[],false),([110],[122],[],false),([110],[121],[98],false),([97,98],[122],[],false),([97],[],[],true)])
def cExample:Con:=.of 17 [] [q0t] (λ_=>True) (λ_=>exR)
def cHead11:Con:=.of 4 [] [.one .bool] (λ_=>True) (λ_=>true)
def consHead:List Con:=[cLetters,cExample,cWrit,cParse,cTexts,qhd]
theorem take_all {α:Type} {a b:List α} (hl:a.length=b.length) {k:Nat} (hk:a.length≤k) (h:a.take k=b.take k):a=b:=by
 rw [Qd hk,Qd (by omega)] at h
 exact h
theorem take_more {α:Type} {a b:List α} {k:Nat} {x y:α} (hx:a[k]? = some x) (hy:b[k]? = some y) (h:a.take k=b.take k) (e:x=y):a.take (k+1)=b.take (k+1):=by
 rw [Qr,Qr,hx,hy,h,e]
theorem getD_some {α:Type} (l:List α) (d:α) (k:Nat) (h:k<l.length):l[k]? = some (l.getD k d):=by
 rw [Q0,Q3 h];rfl
theorem all_no {α:Type} {l:List α} {f:α→Bool} {x:α} (h:x∈l) (hf:f x=false):l.all f=false:=by
 cases hh:l.all f
 ·rfl
 ·have:=Qh.1 hh x h;rw [hf] at this;cases this
theorem all_more {α:Type} {l:List α} {f:α→Bool} {k:Nat} {x:α} (hx:l[k]? = some x) (h:(l.take k).all f=true) (hf:f x=true):(l.take (k+1)).all f=true:=by
 rw [Qr,hx,QE,h]
 simpa using hf
theorem qgn {α:Type} [BEq α] [LawfulBEq α] (d:α) (a b:List α) (h:a.length≤1000000000000000) (A:Prop) (hno:(a==b)=false→A) (B:Prop) (hyes:(a==b)=true→B) :
  bif (a.length:Int) != (b.length:Int) then A else (∃ p':Nat,(p'≤a.length∧a.take p'=b.take p')∧(0:Int)=(p':Int))∧∀ p:Nat,p≤a.length∧a.take p=b.take p →
   bif decide ((p:Int)<(a.length:Int)) then ((0:Int)≤(p:Int)∧(p:Int)<(a.length:Int))∧((0:Int)≤(p:Int)∧(p:Int)<(b.length:Int)) ∧
    bif !(a.getD (p:Int).toNat d==b.getD (p:Int).toNat d) then A else ((-9223372036854775808:Int)≤(p:Int)+1∧(p:Int)+1≤9223372036854775807)∧∃ p':Nat,(p'≤a.length∧a.take p'=b.take p')∧a.length-p'<a.length-p∧(p:Int)+1=(p':Int) else B:=by
 refine bifP (λhb=>hno ?_) λhb=>⟨⟨0,⟨Qf _,rfl⟩,rfl⟩,λp ⟨hp,ht⟩=>bifP (λhc=>?_) λhc=>?_⟩
 ·have hl:a.length≠b.length:=by have:=bne_iff_ne.1 hb;omega
  rw [beq_eq_false_iff_ne];intro e;exact hl (by rw [e])
 ·have hl:a.length=b.length:=by have:=bne_eq_false_iff_eq.1 hb;omega
  have hlt:p<a.length:=by have:=of_decide_eq_true hc;omega
  refine ⟨⟨by omega,by omega⟩,⟨by omega,by omega⟩,bifP (λhe=>hno ?_) λhe=>⟨⟨by omega,by omega⟩,p+1,⟨by omega,?_⟩,by omega,by omega⟩⟩
  ·rw [beq_eq_false_iff_ne]
   intro e;rw [e] at he;simp at he
  ·have he:a.getD p d=b.getD p d:=by
    have he:(!(a.getD p d==b.getD p d))=false:=he
    simpa using he
   exact take_more (getD_some a d p hlt) (getD_some b d p (by omega)) ht he
 ·have hl:a.length=b.length:=by have:=bne_eq_false_iff_eq.1 hb;omega
  refine hyes ?_;rw [beq_iff_eq];exact take_all hl (by have:=of_decide_eq_false hc;omega) ht
end Go.Proofs.YtlmbfijhkcmncaaGreatDoor
namespace Go.Proofs.YtlmbfijhkcmncaaGreatDoor
open Go.RowKit
namespace R
inductive FA where
 | no
 | fn (g:FuncId)
 | clo (g:FuncId) (ks:Kds)
@[reducible] def FA.Pay:FA→Type
 | .no=>Unit
 | .fn _=>Unit
 | .clo _ ks=>ks.Pay
def FA.Rep (S:Nat→Prop) (w:World):(x:FA)→x.Pay→List Value→Prop
 | .no,_,vs=>vs=[]
 | .fn g,_,vs=>vs=[.func (.func g) #[] #[]]
 | .clo g ks,b,vs=>∃ B ty us,vs=[.func (.func g) #[] #[.pointer (some ⟨B,0,none⟩)]]∧Blk w B ty us∧q06 (Cx.of S) w (ks.cells b) us∧¬ S B
def takeFA (st:St):(x:FA)→List Comp→Option x.Pay
 | .no,[]=>some ()
 | .fn g,[.one (.fn g')]=>bif g.beq g' then some () else none
 | .fn g,[.one (.clo g' _ [])]=>bif g.beq g' then some () else none
 | .clo g ks,[.one (.clo g' 0 [(b,0)])]=>bif g.beq g' then (match st.box b with
  | some cs=>q1e ks cs
  | none=>none) else none
 | _,_=>none
def q8c:List Comp→List Nat
 | []=>[]
 | .one c::l=>ownsC [c]++q8c l
 | .agg cs::l=>ownsC cs++q8c l
def thawAll:St→List Nat→List Comp→List Comp
 | _,[],xs=>xs
 | st,r::l,xs=>thawAll (st.freeze r) l (xs.map λc=>c.mapC (st.thawR r))
structure NCon where
 f:FuncId
 args:List CK
 fa:FA:=.no
 e:TypeId
 fs:Kds
 pre:Pays args→fa.Pay→Prop
 F:Pays args→fa.Pay→List fs.Pay
structure OCon where
 f:FuncId
 e:TypeId
 fs:Kds
 args:List CK
 fa:FA:=.no
 ret:Bool
 pre:List fs.Pay→Pays args→fa.Pay→Prop
 F:List fs.Pay→Pays args→fa.Pay→List fs.Pay
structure FCon where
 f:FuncId
 args:List CK
 fa:FA
 res:List CK
 pre:Pays args→fa.Pay→Prop
 F:Pays args→fa.Pay→Pays res
def nOf (f:FuncId):List NCon→Option NCon
 | []=>none
 | c::r=>bif c.f.beq f then some c else nOf f r
def oOf (f:FuncId):List OCon→Option OCon
 | []=>none
 | c::r=>bif c.f.beq f then some c else oOf f r
def fOf (f:FuncId):List FCon→Option FCon
 | []=>none
 | c::r=>bif c.f.beq f then some c else fOf f r
def vNew (c:NCon) (xs:List Comp) (off:Nat) (st:St) (K:List Comp→St→Prop):Prop :=
 match q1r c.args (asAVs (thawAll st (q8c xs) (xs.take c.args.length))),takeFA st c.fa (xs.drop c.args.length) with
 | some p,some b=>c.pre p b∧bif c.fs.flat then K [.one (.own off)] (st.setRow off ⟨c.e,c.fs,c.F p b⟩)
   else K [.one (.own off)] ((st.q08 (q8c xs)).setRow off ⟨c.e,c.fs,c.F p b⟩)
 | _,_=>False
def vOwn (c:OCon) (xs:List Comp) (st:St) (K:List Comp→St→Prop):Prop :=
 match xs with
 | .one (.own r)::rest=>match st.row r,q1r c.args (asAVs (rest.take c.args.length)),takeFA st c.fa (rest.drop c.args.length) with
  | some x,some p,some b=>match x.fs.deq c.fs with
   | some ⟨h⟩=>bif x.e.beq c.e then c.pre (q4n h x.xs) p b∧bif c.ret then K [.one (.own r)] (st.setRow r ⟨c.e,c.fs,c.F (q4n h x.xs) p b⟩) else K [] (st.putRow r ⟨c.e,c.fs,c.F (q4n h x.xs) p b⟩) else False
   | none=>False
  | _,_,_=>False
 | _=>False
def vFn (c:FCon) (xs:List Comp) (st:St) (K:List Comp→St→Prop):Prop :=
 match q1r c.args (asAVs (thawAll st (q8c xs) (xs.take c.args.length))),takeFA st c.fa (xs.drop c.args.length) with
 | some p,some b=>c.pre p b∧bif c.res.all CK.qa8 then K (q0u c.res (c.F p b)) st else K (q0u c.res (c.F p b)) (st.q08 (q8c xs))
 | _,_=>False
def xInl (ns:List NCon) (os:List OCon) (fs:List FCon) (B:Inl):Inl:=λf xs off st K KP =>
 bif Nat.blt f 1000000000 then (match nOf f ns with
  | some c=>vNew c xs off st K
  | none=>match oOf f os with
   | some c=>vOwn c xs st K
   | none=>match fOf f fs with
    | some c=>vFn c xs st K
    | none=>B f xs off st K KP) else B f xs off st K KP
section
variable {w0:Base} {w w':World} {κ:Cx} {st:St} {a:Act} {P:Program} {cons:List Con}
def FnOk (P : Program) (f : FuncId) : Prop := ∃ fn, P.funcs[f]? = some fn ∧ (fn.name == "runtime.NumGoroutine") = false ∧ fn.body.isNone = false
def NCon.Holds (P:Program) (c:NCon):Prop:=FnOk P c.f ∧
 ∀ (p:Pays c.args) (b:c.fa.Pay) (vs fvs:List Value) (w:World) (S:Nat→Prop),(∀ g,S g→g<w.heap.size)→c.pre p b→q0f (Cx.of S) w (q0u c.args p) vs→c.fa.Rep S w b fvs →
  Calls P c.f (vs++fvs).toArray w λe w'=>Below w.heap.size w w'∧∃ u cells,e=.returned u∧w'.ownsRow w.heap.size c.e c.fs.size u (c.F p b).length cells∧q0k (Cx.of S) w c.fs (c.F p b) cells
def OCon.Holds (P:Program) (c:OCon):Prop:=FnOk P c.f ∧
 ∀ (xs:List c.fs.Pay) (p:Pays c.args) (b:c.fa.Pay) (v:Value) (cells vs fvs:List Value) (w:World) (n0:Nat) (S:Nat→Prop),n0≤w.heap.size→(∀ g,S g→g<w.heap.size)→(∀ g,v.ownBlock=some g→¬ S g)→w.ownsRow n0 c.e c.fs.size v xs.length cells→q0k (Cx.of S) w c.fs xs cells →
  c.pre xs p b→q0f (Cx.of S) w (q0u c.args p) vs→c.fa.Rep S w b fvs→(∀ g u,v.ownBlock=some g→fvs≠[.func u #[] #[.pointer (some ⟨g,0,none⟩)]]) →
  Calls P c.f (v::(vs++fvs)).toArray w λe w'=>w.grownBy w' v.ownBlock∧∃ u cells',e=.returned u ∧
   w'.ownsRow n0 c.e c.fs.size (if c.ret then u else v) (c.F xs p b).length cells'∧q0k (Cx.of S) w c.fs (c.F xs p b) cells'∧(c.ret=true→∀ g,u.ownBlock=some g→v.ownBlock=some g∨w.heap.size≤g)∧(c.ret=false→u=.tuple #[])
def FCon.Holds (P:Program) (c:FCon):Prop:=FnOk P c.f ∧
 ∀ (p:Pays c.args) (b:c.fa.Pay) (vs fvs:List Value) (w:World) (S:Nat→Prop),(∀ g,S g→g<w.heap.size)→c.pre p b→q0f (Cx.of S) w (q0u c.args p) vs→c.fa.Rep S w b fvs →
  Calls P c.f (vs++fvs).toArray w λe w'=>Below w.heap.size w w'∧∃ u,e=.returned u∧(q1s c.res (c.F p b)).Rep (Cx.of λg=>S g∨(w.heap.size≤g∧g<w'.heap.size)) w' u
theorem q0f.mapC {κ':Cx} {g:Cell→Cell} (H:∀ (c:Cell) v,c.Rep κ w v→(g c).Rep κ' w v) {xs:List Comp} {vs:List Value} (h:q0f κ w xs vs):q0f κ' w (xs.map λc=>c.mapC g) vs:=by
 refine ⟨by rw [h.1,QD],λi c hc=>?_⟩
 rw [List.getElem?_map] at hc;cases hx:xs[i]? with
 | none=>rw [hx] at hc;cases hc
 | some x =>
  rw [hx] at hc;injection hc with hc;subst hc;obtain ⟨u,hu,hr⟩:=h.2 i x hx;refine ⟨u,hu,?_⟩;cases x with
  | one c=>exact H c u hr
  | agg cs=>obtain ⟨us,rfl,hr⟩:=hr;exact ⟨us,rfl,q4y H hr⟩
end
end R
namespace R
structure Kit where
 cons:List Con:=[]
 ns:List NCon:=[]
 os:List OCon:=[]
 fcs:List FCon:=[]
 rcs:List RCon:=[]
 inls:List (Nat×Func):=[]
structure Kit.Ok (P:Program) (T:Kit):Prop where
 cons:∀ c∈T.cons,c.Holds P
 ns:∀ c∈T.ns,c.Holds P
 os:∀ c∈T.os,c.Holds P
 fcs:∀ c∈T.fcs,c.Holds P
 rcs:∀ c∈T.rcs,c.Holds P
 inls:q2b P T.inls
def Kit.base (T:Kit):Inl:=xInl T.ns T.os T.fcs (qd8 T.rcs)
theorem all_nil {α:Type} {p:α→Prop}:∀ c∈([]:List α),p c:=λc h=>by cases h
theorem all_cons {α:Type} {p:α→Prop} {x:α} {l:List α} (h:p x) (hl:∀ c∈l,p c):∀ c∈x::l,p c:=λc hc=>by
 rcases Qm.1 hc with rfl | hc
 ·exact h
 ·exact hl c hc
end R
namespace R
def keepE (ks:List Nat) (l:List (Nat×AV)):List (Nat×AV):=ks.map λt=>(t,look (.c (.one .any)) t l)
def keepB:List Nat→List (Nat×List Cell)→List (Nat×List Cell)
 | [],_=>[]
 | b::r,l=>match look? b l with
  | some cs=>(b,cs)::keepB r l
  | none=>keepB r l
structure Keep where
 live:List Nat
 sav:List Nat
 box:List Nat
 lp:List Nat:=[]
def St.hd (st:St) (K:Keep) (over:List (Nat×AV)) (bover:List (Nat×List Cell)) (rows:List (Nat×Row)) (maps:List (Nat×MRow)) (fam:Option FRow):St :=
 {n:=st.n,env:=over++keepE K.live st.env,boxes:=bover++keepB K.box st.boxes,rows:=rows,sav:=keepE K.sav st.sav,maps:=maps,off:=st.off,nest:=none,iters:=[],fam:=fam,lps:=st.lps.map λL=>{ L with env:=keepE K.lp L.env } }
end R
end Go.Proofs.YtlmbfijhkcmncaaGreatDoor
namespace Go.Proofs.YtlmbfijhkcmncaaGreatDoor
open Go.RowKit
attribute [local go_sem] q12 q0q q0s
theorem letter_nat (c:UInt8):Lx.q17 c=((decide ((97:Int)≤c.toNat)&&decide ((c.toNat:Int)≤122))||(decide ((65:Int)≤c.toNat)&&decide ((c.toNat:Int)≤90))):=by
 have h:=Lx.q3u (λc=>Lx.q17 c==((decide ((97:Int)≤c.toNat)&&decide ((c.toNat:Int)≤122))||(decide ((65:Int)≤c.toNat)&&decide ((c.toNat:Int)≤90)))) (by decide +kernel) c
 rwa [beq_iff_eq] at h
theorem digit_nat (c:UInt8):Lx.isDigit c=(decide ((48:Int)≤c.toNat)&&decide ((c.toNat:Int)≤57)):=by
 have h:=Lx.q3u (λc=>Lx.isDigit c==(decide ((48:Int)≤c.toNat)&&decide ((c.toNat:Int)≤57))) (by decide +kernel) c
 rwa [beq_iff_eq] at h
theorem word_nat (c:UInt8):Lx.isWord c=(Lx.q17 c||(Lx.isDigit c||((c.toNat:Int)==95))):=by
 have h:=Lx.q3u (λc=>Lx.isWord c==(Lx.q17 c||(Lx.isDigit c||((c.toNat:Int)==95)))) (by decide +kernel) c
 rwa [beq_iff_eq] at h
theorem q2d (c:UInt8) (w:World):Calls Tryz.prog 84 #[.int .u8 c.toNat] w λe w'=>e=.returned (.bool (Lx.q17 c))∧w'=w:=by
 rw [letter_nat];generalize (c.toNat:Int)=x;by_cases h1:(97:Int)≤x <;> by_cases h2:x≤122 <;> by_cases h3:(65:Int)≤x <;> by_cases h4:x≤90 <;> first | (exfalso;omega) | skip
 all_goals
  simp only [h1,h2,h3,h4,decide_true,decide_false,Bool.and_true,Qg,Bool.or_true,Bool.or_false,Bool.true_and,Qp]
  go_enter Tryz.func84,Tryz.ntmps84
  go_wp2
  go_ret
  exact ⟨rfl,rfl⟩
theorem q2j (c:UInt8) (w:World):Calls Tryz.prog 94 #[.int .u8 c.toNat] w λe w'=>e=.returned (.bool (Lx.isDigit c))∧w'=w:=by
 rw [digit_nat];generalize (c.toNat:Int)=x;by_cases h1:(48:Int)≤x <;> by_cases h2:x≤57 <;> first | (exfalso;omega) | skip
 all_goals
  simp only [h1,h2,decide_true,decide_false,Bool.and_true,Qg,Bool.true_and,Qp]
  go_enter Tryz.func94,Tryz.ntmps94
  go_wp2
  go_ret
  exact ⟨rfl,rfl⟩
theorem qak (c:UInt8) (w:World):Calls Tryz.prog 83 #[.int .u8 c.toNat] w λe w'=>e=.returned (.bool (Lx.isWord c))∧w'=w:=by
 rw [word_nat];cases hl:Lx.q17 c
 ·cases hd:Lx.isDigit c
  ·rcases Bool.eq_false_or_eq_true ((c.toNat:Int)==95) with h5 | h5
   all_goals
    rw [h5]
    go_enter Tryz.func83,Tryz.ntmps83
    go_wp2_with fail
    refine (q2d c _).mono ?_;rintro e w' ⟨rfl,rfl⟩;rw [hl]
    go_wp2_with fail
    refine (q2j c _).mono ?_;rintro e w' ⟨rfl,rfl⟩;rw [hd]
    go_wp2
    go_ret
    exact ⟨rfl,rfl⟩
  ·go_enter Tryz.func83,Tryz.ntmps83
   go_wp2_with fail
   refine (q2d c _).mono ?_;rintro e w' ⟨rfl,rfl⟩;rw [hl]
   go_wp2_with fail
   refine (q2j c _).mono ?_;rintro e w' ⟨rfl,rfl⟩;rw [hd]
   go_wp2
   go_ret
   exact ⟨rfl,rfl⟩
 ·go_enter Tryz.func83,Tryz.ntmps83
  go_wp2_with fail
  refine (q2d c _).mono ?_;rintro e w' ⟨rfl,rfl⟩;rw [hl]
  go_wp2
  go_ret
  exact ⟨rfl,rfl⟩
end Go.Proofs.YtlmbfijhkcmncaaGreatDoor
namespace Go.Proofs.YtlmbfijhkcmncaaGreatDoor
open Go.RowKit
attribute [local go_sem] q12 q0q q0s Later.cell Later.frozen wrap64_nat wrap64_add wrap64_succ
set_option maxRecDepth 100000 in
set_option maxHeartbeats 1000000 in
theorem rname_any (s:ByteArray) (w:World) (hs:s.size≤9223372036854775807):Calls Tryz.prog 56 #[.string s] w λe w'=>e=.returned (.bool (Lx.q0j s.data.toList))∧w'=w:=by
 go_enter Tryz.func56,Tryz.ntmps56
 go_wp2
 go_loop [3] (λi=>∃ k:Nat,k≤s.size∧i=.int .i64 k∧s.data.toList.all Lx.isWord=(s.data.toList.drop k).all Lx.isWord) (λi=>s.size-(intOf i).toNat)
 case atStart=>exact ⟨0,by omega,rfl,rfl⟩
 case round =>
  obtain ⟨k,hk,rfl,hc⟩:=hrel;have HC:=Qa hc;clear hc;by_cases hlt:k<s.size
  ·have hd:=q10 s k hlt
   have HD:=Qa hd;clear hd;have hb:s[k].toNat<256:=QF s[k]
   go_wp2_with fail
   refine (qak s[k] _).mono ?_;rintro e w' ⟨rfl,rfl⟩;cases hwd:Lx.isWord s[k]
   ·have HWD:=Qa hwd
    clear hwd
    go_wp2
    go_ret
    refine ⟨?_,rfl⟩;refine q1j ?_;unfold Lx.q0j;rw [HC.out,HD.out,Qw,HWD.out];rfl
   ·have HWD:=Qa hwd
    clear hwd
    go_wp2
    go_round
    case rel =>
     refine ⟨k+1,by omega,by go_num,?_⟩
     rw [HC.out,HD.out,Qw,HWD.out];rfl
    case measure=>simp [intOf];omega
  ·have hd:s.data.toList.drop k=[]:=List.drop_eq_nil_of_le (by rw [← q0c];omega)
   have hall:s.data.toList.all Lx.isWord=true:=by rw [HC.out,hd];rfl
   have HA:=Qa hall;have HSL:=Qa (q0c s);clear hd hall HC;by_cases h0:0<s.size
   ·by_cases h24:s.size≤24
    ·have hdg:=q10 s 0 h0
     rw [QG] at hdg;have HD:=Qa hdg;clear hdg;have hb:s[0].toNat<256:=QF s[0]
     go_wp2_with fail
     refine (q2d s[0] _).mono ?_;rintro e w' ⟨rfl,rfl⟩;have hfin:Lx.q0j s.data.toList=Lx.q17 s[0]:=by
      have h1:decide (0<s.data.toList.length)=true:=by rw [decide_eq_true_eq,← HSL.out];exact h0
      have h2:decide (s.data.toList.length≤24)=true:=by rw [decide_eq_true_eq,← HSL.out];exact h24
      unfold Lx.q0j;rw [HA.out,h1,h2,HD.out];rfl
     have HF:=Qa hfin;clear hfin
     go_wp2
     go_ret
     exact ⟨q1j HF.out.symm,rfl⟩
    ·have hfin:Lx.q0j s.data.toList=false:=by
      have h2:decide (s.data.toList.length≤24)=false:=by rw [decide_eq_false_iff_not,← HSL.out];exact h24
      unfold Lx.q0j;rw [HA.out,h2];simp
     have HF:=Qa hfin;clear hfin
     go_wp2
     go_ret
     exact ⟨q1j HF.out.symm,rfl⟩
   ·have hfin:Lx.q0j s.data.toList=false:=by
     have h1:decide (0<s.data.toList.length)=false:=by rw [decide_eq_false_iff_not,← HSL.out];exact h0
     unfold Lx.q0j;rw [HA.out,h1];simp
    have HF:=Qa hfin;clear hfin
    go_wp2
    go_ret
    exact ⟨q1j HF.out.symm,rfl⟩
end Go.Proofs.YtlmbfijhkcmncaaGreatDoor
namespace Go.Proofs.YtlmbfijhkcmncaaGreatDoor
open Go.RowKit R
def qey:Con:=.of 68 [.one .str,.one .str] [.one .bool] (λ_=>True) (λp=>p.2.isPrefixOf p.1)
def cNameG:Con:=.of 56 [.one .str] [.one .bool] (λs=>Q9 s≤1000000) Lx.q0j
theorem qir:cNameG.Holds Tryz.prog:=ql4 Tryz.func56 (by kernel_rfl) (by kernel_rfl) λs w h=>(rname_any (bs s) w (by rw [q3j];omega)).mono λe w' ⟨he,hw⟩=>⟨he,by rw [hw];exact q03 w⟩
def anAtG (ls:List (List UInt8)) (s:List UInt8):List (Nat×Ann) :=
 [ann 0 Nat [1,2,3] (λk=>[(7,R.int .i64 (Al.best ls s k)),(8,R.int .i64 k)]) (λk=>k≤ls.length) (λk=>ls.length-k)]
def cAtG:Con:=.of 51 [ckAl,.one .str,.one (.int .i64)] [.one (.int .i64)] (λp=>FewP p.1∧0≤p.2.2∧p.2.2≤Q9 p.2.1∧Q9 p.2.1≤1000000) (λp=>Al.best p.1.2.1 (Q7 (Qz p.2.2) p.2.1) p.1.2.1.length)
def anFormedG (nm:List UInt8) (ls:List (List UInt8)) (sm:List Int):List (Nat×Ann) :=
  [annS 0 Nat [1] (λk=>[(3,R.int .i64 k)]) (λ_=>[]) (λ_ k=>k≤ls.length∧(ls.take k).all Al.q1f=true∧Al.q1p (ls.take k)=true∧∀ x∈sm.take k,0≤x∧x<ls.length) (λ_ k=>ls.length-k),
   annS 2 Nat [1,3,4] (λk=>[(5,R.int .i64 k)]) (λ_=>[]) (λst k=>k≤(st.strOf 4).length∧((st.strOf 4).take k).all Al.q1o=true) (λst k=>(st.strOf 4).length-k),
   annS 4 Nat [1,3,4] (λk=>[(6,R.int .i64 k)]) (λ_=>[]) (λst k=>(k:Int)≤st.intOf 3∧(ls.take k).contains (st.strOf 4)=false) (λst k=>(st.intOf 3).toNat-k),
   annS 6 Nat [1] (λk=>[(7,R.int .i64 k)]) (λ_=>[]) (λ_ k=>k≤sm.length∧∀ x∈sm.take k,sm.getD x.toNat 0=x) (λ_ k=>sm.length-k)]
def qj6:Con:=.of 67 [ckAl] [.one .bool] FewP (λp=>Al.q04 (alOf p))
theorem begins_vcG (s t:List UInt8) :
    bif decide ((t.length:Int)≤(s.length:Int)) then ((0:Int)≤(0:Int)∧(0:Int)≤(t.length:Int)∧(t.length:Int)≤(s.length:Int))∧(Q7 (Qz (0:Int))
    (Q8 (t.length:Int).toNat s)==t)=t.isPrefixOf s else false=t.isPrefixOf s
     := by
  by_cases h:t.length≤s.length
  · simp only [Int.ofNat_le,h,decide_true,cond_true,Int.toNat_zero,QG,QA]
    refine ⟨⟨Qu _,Int.natCast_nonneg _,trivial⟩,?_⟩;rw [Bool.eq_iff_iff,beq_iff_eq,Qe,List.prefix_iff_eq_take];exact eq_comm
  · simp only [Int.ofNat_le,h,decide_false,cond_false]
    symm
    rw [← Qj,Qe];exact λhp=>h hp.length_le
set_option maxRecDepth 100000 in
theorem qan:qey.Holds Tryz.prog:=by
 refine q20 (cons:=[]) Tryz.func68 (by kernel_rfl) (by kernel_rfl) mixed (by kernel_rfl) (λ_ h=>by cases h) (λ_=>[]) λp _=>?_
 obtain ⟨s,t⟩:=p;refine cast ?_ (begins_vcG s t)
 kernel_rfl
namespace Al
theorem all_snoc {α:Type} (f:α→Bool) (l:List α) (k:Nat) (h:k<l.length):(l.take (k+1)).all f=((l.take k).all f&&f l[k]):=by
 rw [List.take_succ_eq_append_getElem h,QE];simp
end Al
theorem best_ltG (L:List (List UInt8)) (s:List UInt8):∀ k,k≤L.length→-1≤Al.best L s k∧Al.best L s k<k:=by
 intro k
 induction k with
 | zero=>intro _;exact ⟨Qu _,by show (-1:Int)<0;omega⟩
 | succ k ih =>
  intro hk;obtain ⟨h1,h2⟩:=ih (by omega)
  show -1≤Al.better L s k (Al.best L s k)∧Al.better L s k (Al.best L s k)<((k+1:Nat):Int);unfold Al.better;split <;> constructor <;> omega
set_option maxRecDepth 100000 in
theorem at_vcG (nm:List UInt8) (ls:List (List UInt8)) (sm:List Int) (s:List UInt8) (i:Int) (h:cAtG.pre ((nm,ls,sm),s,i)) :
    (∃ (p':Nat),p'≤ls.length∧((-1:Int)=Al.best ls (Q7 i.toNat s) p'∧(0:Int)=(p':Int)∧s=s∧i=i∧True∧True)∧((nm=nm∧ls=ls∧sm=sm∧True)∧True) ∧
    True∧True∧True∧True∧True∧True∧True∧True)∧∀ (p:Nat),p≤ls.length→bif decide ((p:Int)<(ls.length:Int)) then ((0:Int)≤i∧i≤(s.length:Int)∧(↑s.length :
    Int)≤(s.length:Int))∧((0:Int)≤(p:Int)∧(p:Int)<(ls.length:Int))∧True∧bif (ls.getD (p:Int).toNat []).isPrefixOf (Q7 i.toNat (Q8 (↑s.length :
    Int).toNat s)) then bif decide (Al.best ls (Q7 i.toNat s) p<(0:Int)) then ((-9223372036854775808:Int)≤(p:Int)+(1:Int)∧(p:Int)+(1:Int)≤(9223372036854775807 :
    Int))∧∃ (p':Nat),p'≤ls.length∧ls.length-p'<ls.length-p∧((p:Int)=Al.best ls (Q7 i.toNat s) p'∧(p:Int)+(1:Int)=(p':Int)∧s=s∧i=i∧True ∧
    True)∧((nm=nm∧ls=ls∧sm=sm∧True)∧True)∧True∧True∧True∧True∧True∧True∧True∧True else ((0:Int)≤(p:Int)∧(p:Int)<(ls.length:Int))∧((0:Int) ≤
    Al.best ls (Q7 i.toNat s) p∧Al.best ls (Q7 i.toNat s) p<(ls.length:Int))∧bif decide ((↑(ls.getD (Al.best ls (Q7 i.toNat s) p).toNat []).length:Int) <
    (↑(ls.getD (p:Int).toNat []).length:Int)) then ((-9223372036854775808:Int)≤(p:Int)+(1:Int)∧(p:Int)+(1:Int)≤(9223372036854775807:Int))∧∃ (p':Nat),p' ≤
    ls.length∧ls.length-p'<ls.length-p∧((p:Int)=Al.best ls (Q7 i.toNat s) p'∧(p:Int)+(1:Int)=(p':Int)∧s=s∧i=i∧True∧True)∧((nm=nm∧ls=ls ∧
    sm=sm∧True)∧True)∧True∧True∧True∧True∧True∧True∧True∧True else ((-9223372036854775808:Int)≤(p:Int)+(1:Int)∧(p:Int)+(1:Int)≤(9223372036854775807 :
    Int))∧∃ (p':Nat),p'≤ls.length∧ls.length-p'<ls.length-p∧(Al.best ls (Q7 i.toNat s) p=Al.best ls (Q7 i.toNat s) p'∧(p:Int)+(1:Int)=(p':Int)∧s =
    s∧i=i∧True∧True)∧((nm=nm∧ls=ls∧sm=sm∧True)∧True)∧True∧True∧True∧True∧True∧True∧True∧True else ((-9223372036854775808:Int)≤(p:Int)+(1:Int) ∧
    (p:Int)+(1:Int)≤(9223372036854775807:Int))∧∃ (p':Nat),p'≤ls.length∧ls.length-p'<ls.length-p∧(Al.best ls (Q7 i.toNat s) p=Al.best ls (Q7 i.toNat s)
    p'∧(p:Int)+(1:Int)=(p':Int)∧s=s∧i=i∧True∧True)∧((nm=nm∧ls=ls∧sm=sm∧True)∧True)∧True∧True∧True∧True∧True∧True∧True∧True else Al.best
    ls (Q7 i.toNat s) p=Al.best ls (Q7 i.toNat s) ls.length
     := by
  obtain ⟨⟨h70,h20,_,_⟩,hi0,hi1,hs⟩:=h;have hi0:0≤i:=hi0;have hi1:i≤(s.length:Int):=hi1;have h70:ls.length≤70:=h70;have hb:∀ k,k≤ls.length→-1≤Al.best ls (s.drop i.toNat) k∧Al.best ls (s.drop i.toNat) k<k:=best_ltG ls _;simp only [QA,Qk,true_and,and_true,eq_self];refine ⟨⟨0,Qf _,rfl,rfl⟩,λp hp=>?_⟩
  by_cases hlt:p<ls.length
  · have hlt':(p:Int)<(ls.length:Int):=by omega
    have hget:Al.q3n ls (p:Int)=ls.getD p []:=rfl;rw [decide_eq_true hlt'];have hstep:Al.best ls (s.drop i.toNat) (p+1)=Al.better ls (s.drop i.toNat) p (Al.best ls (s.drop i.toNat) p):=rfl;obtain ⟨hb1,hb2⟩:=hb p hp;refine ⟨⟨hi0,hi1,Qu _⟩,⟨by omega,hlt'⟩,?_⟩
    have go:∀ v:Int,v=Al.best ls (s.drop i.toNat) (p+1)→(-9223372036854775808≤(p:Int)+1∧(p:Int)+1≤9223372036854775807)∧∃ p':Nat,p'≤ls.length∧ls.length-p'<ls.length-p∧v=Al.best ls (s.drop i.toNat) p'∧(p:Int)+1=(p':Int) :=
      λv hv=>⟨⟨by omega,by omega⟩,p+1,hlt,by omega,hv,by omega⟩
    generalize Al.best ls (s.drop i.toNat) p=b at *
    cases hpre:(ls.getD p []).isPrefixOf (s.drop i.toNat)
    · exact go _ (by rw [hstep];unfold Al.better;rw [hget,hpre];simp)
    · by_cases hn:b<0
      · rw [decide_eq_true hn]
        exact go _ (by rw [hstep];unfold Al.better;rw [hget,hpre,decide_eq_true hn];simp)
      · rw [decide_eq_false hn]
        refine ⟨⟨by omega,hlt'⟩,⟨by omega,by omega⟩,?_⟩
        by_cases hl:(((ls.getD b.toNat []).length:Nat):Int)<((ls.getD p []).length:Int)
        · rw [decide_eq_true hl]
          have hl':(Al.q3n ls b).length<(ls.getD p []).length:=by show (ls.getD b.toNat []).length<_;omega
          exact go _ (by rw [hstep];unfold Al.better;rw [hget,hpre,decide_eq_true hl'];simp)
        · rw [decide_eq_false hl]
          have hl':¬ (Al.q3n ls b).length<(ls.getD p []).length:=by show ¬ (ls.getD b.toNat []).length<_;omega
          exact go _ (by rw [hstep];unfold Al.better;rw [hget,hpre,decide_eq_false hn,decide_eq_false hl'];simp)
  · have hpe:p=ls.length:=by omega
    subst hpe;rw [decide_eq_false (by omega)]
    rfl
set_option maxRecDepth 100000 in
theorem at_holdsG:cAtG.Holds Tryz.prog:=by
 refine q20 (cons:=[qey]) Tryz.func51 (by kernel_rfl) (by kernel_rfl) mixed (by kernel_rfl) (λc h=>by obtain rfl:=Qb.1 h;exact qan) (λp=>anAtG p.1.2.1 (Q7 (Qz p.2.2) p.2.1)) λp hp=>?_
 obtain ⟨⟨nm,ls,sm⟩,s,i⟩:=p;refine cast ?_ (at_vcG nm ls sm s i hp)
 kernel_rfl
set_option maxRecDepth 100000 in
theorem formed_vcG (nm:List UInt8) (ls:List (List UInt8)) (sm:List Int) (h:qj6.pre (nm,ls,sm)) :
    nm.length≤(1000000:Nat)∧bif !Lx.q0j nm then false=Al.q04 (alOf (nm,ls,sm)) else bif decide ((ls.length:Int)<(1:Int)) then false=Al.q04 (alOf (nm,ls,sm)) else
    bif decide ((64:Int)<(ls.length:Int)) then false=Al.q04 (alOf (nm,ls,sm)) else bif (sm.length:Int) != (ls.length:Int) then false=Al.q04 (alOf (nm,ls,sm)) else (∃
    (p':Nat),(p'≤ls.length∧(Q8 p' ls).all Al.q1f=true∧Al.q1p (Q8 p' ls)=true∧∀ (x:Int),x∈Q8 p' sm→(0:Int)≤x∧x<(ls.length:Int)) ∧
    ((0:Int)=(p':Int)∧True∧True)∧((nm=nm∧ls=ls∧sm=sm∧True)∧True)∧True∧True∧True∧True∧True∧True∧True∧True)∧∀ (p:Nat),(p≤ls.length∧(Q8 p
    ls).all Al.q1f=true∧Al.q1p (Q8 p ls)=true∧∀ (x:Int),x∈Q8 p sm→(0:Int)≤x∧x<(ls.length:Int))→bif decide ((p:Int)<(ls.length:Int))
    then ((0:Int)≤(p:Int)∧(p:Int)<(ls.length:Int))∧bif decide ((↑(ls.getD (p:Int).toNat []).length:Int)<(1:Int)) then false=Al.q04 (alOf (nm,ls,sm)) else bif
    decide ((3:Int)<(↑(ls.getD (p:Int).toNat []).length:Int)) then false=Al.q04 (alOf (nm,ls,sm)) else ((0:Int)≤(p:Int)∧(p:Int)<(sm.length:Int))∧bif decide
    (sm.getD (p:Int).toNat (0:Int)<(0:Int)) then false=Al.q04 (alOf (nm,ls,sm)) else ((0:Int)≤(p:Int)∧(p:Int)<(sm.length:Int))∧bif decide ((ls.length:Int)
    ≤ sm.getD (p:Int).toNat (0:Int)) then false=Al.q04 (alOf (nm,ls,sm)) else (∃ (p':Nat),(p'≤(ls.getD (p:Int).toNat []).length∧(Q8 p' (ls.getD (p:Int).toNat
    [])).all Al.q1o=true)∧((0:Int)=(p':Int)∧True∧(p:Int)=(p:Int)∧ls.getD (p:Int).toNat []=ls.getD (p:Int).toNat []∧True)∧((nm=nm∧ls=ls∧sm=sm ∧
    True)∧True)∧True∧True∧True∧True∧True∧True∧True∧True)∧∀ (p_1:Nat),p_1≤(ls.getD (p:Int).toNat []).length∧(Q8 p_1 (ls.getD (p:Int).toNat [])).all
    Al.q1o=true→bif decide ((p_1:Int)<(↑(ls.getD (p:Int).toNat []).length:Int)) then ((0:Int)≤(p_1:Int)∧(p_1:Int)<(↑(ls.getD (p:Int).toNat []).length:Int)) ∧
    bif decide ((↑((ls.getD (p:Int).toNat []).getD (p_1:Int).toNat (0:UInt8)).toNat:Int)<(33:Int)) then false=Al.q04 (alOf (nm,ls,sm)) else ((0:Int)≤(p_1:Int) ∧
    (p_1:Int)<(↑(ls.getD (p:Int).toNat []).length:Int))∧bif decide ((126:Int)<(↑((ls.getD (p:Int).toNat []).getD (p_1:Int).toNat (0:UInt8)).toNat:Int)) then false =
    Al.q04 (alOf (nm,ls,sm)) else ((0:Int)≤(p_1:Int)∧(p_1:Int)<(↑(ls.getD (p:Int).toNat []).length:Int))∧bif (↑((ls.getD (p:Int).toNat []).getD (p_1:Int).toNat
    (0:UInt8)).toNat:Int)==(34:Int) then false=Al.q04 (alOf (nm,ls,sm)) else ((-9223372036854775808:Int)≤(p_1:Int)+(1:Int)∧(p_1:Int)+(1:Int) ≤
    (9223372036854775807:Int))∧∃ (p':Nat),(p'≤(ls.getD (p:Int).toNat []).length∧(Q8 p' (ls.getD (p:Int).toNat [])).all Al.q1o=true)∧(ls.getD (p:Int).toNat
    []).length-p'<(ls.getD (p:Int).toNat []).length-p_1∧((p_1:Int)+(1:Int)=(p':Int)∧True∧(p:Int)=(p:Int)∧ls.getD (p:Int).toNat []=ls.getD (↑p :
    Int).toNat []∧True)∧((nm=nm∧ls=ls∧sm=sm∧True)∧True)∧True∧True∧True∧True∧True∧True∧True∧True else (∃ (p':Nat),((p':Int)≤(p:Int)∧(Q8 p'
    ls).contains (ls.getD (p:Int).toNat [])=false)∧((0:Int)=(p':Int)∧True∧(p:Int)=(p:Int)∧ls.getD (p:Int).toNat []=ls.getD (p:Int).toNat []∧True)∧((nm =
    nm∧ls=ls∧sm=sm∧True)∧True)∧True∧True∧True∧True∧True∧True∧True∧True)∧∀ (p_2:Nat),(p_2:Int)≤(p:Int)∧(Q8 p_2 ls).contains (ls.getD (↑p :
    Int).toNat [])=false→bif decide ((p_2:Int)<(p:Int)) then ((0:Int)≤(p_2:Int)∧(p_2:Int)<(ls.length:Int))∧bif ls.getD (p_2:Int).toNat []==ls.getD (↑p :
    Int).toNat [] then false=Al.q04 (alOf (nm,ls,sm)) else ((-9223372036854775808:Int)≤(p_2:Int)+(1:Int)∧(p_2:Int)+(1:Int)≤(9223372036854775807:Int))∧∃ (p' :
    Nat),((p':Int)≤(p:Int)∧(Q8 p' ls).contains (ls.getD (p:Int).toNat [])=false)∧(p:Int).toNat-p'<(p:Int).toNat-p_2∧((p_2:Int)+(1:Int)=(p':Int)
    ∧ True∧(p:Int)=(p:Int)∧ls.getD (p:Int).toNat []=ls.getD (p:Int).toNat []∧True)∧((nm=nm∧ls=ls∧sm=sm∧True)∧True)∧True∧True∧True∧True∧True∧True
    ∧ True∧True else ((-9223372036854775808:Int)≤(p:Int)+(1:Int)∧(p:Int)+(1:Int)≤(9223372036854775807:Int))∧∃ (p':Nat),(p'≤ls.length∧(Q8 p' ls).all
    Al.q1f=true∧Al.q1p (Q8 p' ls)=true∧∀ (x:Int),x∈Q8 p' sm→(0:Int)≤x∧x<(ls.length:Int))∧ls.length-p'<ls.length-p∧((p:Int)+(1 :
    Int)=(p':Int)∧True∧True)∧((nm=nm∧ls=ls∧sm=sm∧True)∧True)∧True∧True∧True∧True∧True∧True∧True∧True else (∃ (p':Nat),(p'≤sm.length∧∀ (x:Int),x
    ∈ Q8 p' sm→sm.getD x.toNat (0:Int)=x)∧((0:Int)=(p':Int)∧True∧True)∧((nm=nm∧ls=ls∧sm=sm∧True)∧True)∧True∧True∧True∧True∧True∧True∧True
    ∧ True)∧∀ (p:Nat),(p≤sm.length∧∀ (x:Int),x∈Q8 p sm→sm.getD x.toNat (0:Int)=x)→bif decide ((p:Int)<(sm.length:Int)) then ((0:Int)≤(p:Int)∧(↑p :
    Int)<(sm.length:Int))∧((0:Int)≤sm.getD (p:Int).toNat (0:Int)∧sm.getD (p:Int).toNat (0:Int)<(sm.length:Int))∧((0:Int)≤(p:Int)∧(p:Int)<(↑sm.length :
    Int))∧bif sm.getD (sm.getD (p:Int).toNat (0:Int)).toNat (0:Int) != sm.getD (p:Int).toNat (0:Int) then false=Al.q04 (alOf (nm,ls,sm)) else ((-9223372036854775808:Int)
    ≤ (p:Int)+(1:Int)∧(p:Int)+(1:Int)≤(9223372036854775807:Int))∧∃ (p':Nat),(p'≤sm.length∧∀ (x:Int),x∈Q8 p' sm→sm.getD x.toNat (0:Int)=x) ∧
    sm.length-p'<sm.length-p∧((p:Int)+(1:Int)=(p':Int)∧True∧True)∧((nm=nm∧ls=ls∧sm=sm∧True)∧True)∧True∧True∧True∧True∧True∧True∧True∧True
    else true=Al.q04 (alOf (nm,ls,sm))
     := by
  obtain ⟨h70,h20,hs70,hn⟩:=h;have h70:ls.length≤70:=h70;have hs70:sm.length≤70:=hs70;have hn:nm.length≤100:=hn;have no:(Lx.q0j nm=false∨ls.length<1∨64<ls.length∨sm.length≠ls.length∨(∃ l∈ls,Al.q1f l=false)∨Al.q1p ls=false∨(∃ k∈sm,Al.q4c ls.length sm k=false))→false=Al.q04 (alOf (nm,ls,sm)):=λh=>(Al.q57 (a:=alOf (nm,ls,sm)) h).symm
  simp only [true_and,and_true];refine ⟨by omega,bifP (λhb=>no (.inl (by simpa using hb))) λhnm=>bifP (λhb=>no (.inr (.inl (by have:=of_decide_eq_true hb;omega)))) λh1=>bifP (λhb=>no (.inr (.inr (.inl (by have:=of_decide_eq_true hb;omega))))) λh64=>bifP (λhb=>no (.inr (.inr (.inr (.inl (by have:=bne_iff_ne.1 hb;omega)))))) λhsl=>?_⟩
  have hsl:sm.length=ls.length:=by have:=bne_eq_false_iff_eq.1 hsl;omega
  have h1:¬ ls.length<1:=by have:=of_decide_eq_false h1;omega
  have h64:¬ 64<ls.length:=by have:=of_decide_eq_false h64;omega
  have hnm:Lx.q0j nm=true:=by simpa using hnm
  refine ⟨⟨0,⟨Qf _,rfl,rfl,by simp⟩,rfl⟩,?_⟩
  rintro p ⟨hp,hpr,hnt,hrg⟩;refine bifP (λhb=>?_) λhb=>?_
  · have hlt:p<ls.length:=by have:=of_decide_eq_true hb;omega
    have hmem:ls.getD p []∈ls:=by rw [Q0,Q3 hlt];exact Qc hlt
    have hsm:sm.getD p 0∈sm:=by rw [Q0,Q3 (by omega)];exact Qc _
    have hgl:ls[p]=ls.getD p []:=by rw [Q0,Q3 hlt];rfl
    have hgs:sm[p]'(by omega)=sm.getD p 0:=by rw [Q0,Q3 (by omega)];rfl
    have hl20:(ls.getD p []).length≤20:=h20 _ hmem;generalize hL0:ls.getD ((p:Int).toNat) []=L;have hL:ls.getD p []=L:=hL0;generalize hK0:sm.getD ((p:Int).toNat) 0=K;have hK:sm.getD p 0=K:=hK0;rw [hL] at hmem hgl hl20;rw [hK] at hsm hgs;have noL:Al.q1f L=false→false=Al.q04 (alOf (nm,ls,sm)):=λh=>no (.inr (.inr (.inr (.inr (.inl ⟨L,hmem,h⟩)))))
    have noS:Al.q4c ls.length sm K=false→false=Al.q04 (alOf (nm,ls,sm)):=λh=>no (.inr (.inr (.inr (.inr (.inr (.inr ⟨K,hsm,h⟩))))))
    refine ⟨⟨by omega,by omega⟩,bifP (λhb=>noL ?_) λhl1=>bifP (λhb=>noL ?_) λhl3=>⟨⟨by omega,by omega⟩,bifP (λhb=>noS ?_) λhk0=>⟨⟨by omega,by omega⟩,bifP (λhb=>noS ?_) λhkn=>⟨⟨0,⟨Qf _,rfl⟩,rfl⟩,?_⟩⟩⟩⟩
    · have:L.length<1:=by have:=of_decide_eq_true hb;omega
      unfold Al.q1f;rw [decide_eq_false (p:=1≤L.length) (by omega)];simp
    · have:3<L.length:=by have:=of_decide_eq_true hb;omega
      unfold Al.q1f;rw [decide_eq_false (p:=L.length≤3) (by omega)];simp
    · have:K<0:=of_decide_eq_true hb
      unfold Al.q4c;rw [decide_eq_false (p:=0≤K) (by omega)];rfl
    · have:(ls.length:Int)≤K:=of_decide_eq_true hb
      unfold Al.q4c;rw [decide_eq_false (p:=K<_) (by omega)];simp
    have hl1:¬ L.length<1:=by have:=of_decide_eq_false hl1;omega
    have hl3:¬ 3<L.length:=by have:=of_decide_eq_false hl3;omega
    have hk0:¬ K<0:=of_decide_eq_false hk0;have hkn:¬ (ls.length:Int)≤K:=of_decide_eq_false hkn;rintro j ⟨hj,hob⟩;refine bifP (λhb=>?_) λhb=>?_
    · have hjl:j<L.length:=by have:=of_decide_eq_true hb;omega
      have hgc:L[j]=L.getD j 0:=by rw [Q0,Q3 hjl];rfl
      have hcm:L.getD j 0∈L:=by rw [← hgc];exact Qc hjl
      have hbyte:=qju (L.getD j 0);generalize hC0:L.getD ((j:Int).toNat) 0=C;have hC:L.getD j 0=C:=hC0;rw [hC] at hgc hcm hbyte;have noC:Al.q1o C=false→false=Al.q04 (alOf (nm,ls,sm)):=λh=>noL (by
        unfold Al.q1f;rw [show L.all Al.q1o=false from by
          rw [← Qj,Qh];intro ha;have:=ha C hcm;rw [h] at this;cases this]
        rfl)
      refine ⟨⟨by omega,by omega⟩,bifP (λhb=>noC (by rw [hbyte,hb];rfl)) λc1=>⟨⟨by omega,by omega⟩,bifP (λhb=>noC (by rw [hbyte,c1,hb];rfl)) λc2=>⟨⟨by omega,by omega⟩,bifP (λhb=>noC (by rw [hbyte,c1,c2,hb];rfl)) λc3=>⟨⟨by omega,by omega⟩,j+1,⟨hjl,?_⟩,by omega,by omega⟩⟩⟩⟩
      rw [Al.all_snoc _ _ _ hjl,hob,hgc,hbyte,c1,c2,c3];rfl
    · have hjl:¬ j<L.length:=by have:=of_decide_eq_false hb;omega
      have hall:L.all Al.q1o=true:=by rwa [Qd (by omega)] at hob
      have hprL:Al.q1f L=true:=by
        unfold Al.q1f;rw [hall,decide_eq_true (p:=1≤L.length) (by omega),decide_eq_true (p:=L.length≤3) (by omega)]
        rfl
      refine ⟨⟨0,⟨by omega,rfl⟩,rfl⟩,?_⟩
      rintro q ⟨hq,hnc⟩;refine bifP (λhb=>?_) λhb=>?_
      · have hqp:q<p:=by have:=of_decide_eq_true hb;omega
        refine ⟨⟨by omega,by omega⟩,bifP (λhb=>?_) λhne=>⟨⟨by omega,by omega⟩,q+1,⟨by omega,?_⟩,by omega,by omega⟩⟩
        · have he:ls.getD q []=L:=beq_iff_eq.1 hb
          refine no (.inr (.inr (.inr (.inr (.inr (.inl ?_))))));refine Al.qi7 (k:=p) hlt ?_;rw [Qo,hgl];rw [← he,Q0,Q3 (by omega),Option.getD_some]
          have:(ls.take p)[q]? = some ls[q]:=by rw [List.getElem?_take,if_pos hqp,Q3 (by omega)]
          exact List.mem_of_getElem? this
        · have hne:ls.getD q []≠L:=beq_eq_false_iff_ne.1 hne
          have hgq:ls[q]'(by omega)=ls.getD q []:=by rw [Q0,Q3 (by omega)];rfl
          rw [Al.q73 ls q (by omega),← Qj,Qo,Qs]
          rintro (hm | hm)
          · rw [← Qj,Qo] at hnc
            exact hnc hm
          · exact hne (by rw [← hgq];exact (Qb.1 hm).symm)
      · have hqp:q=p:=by have:=of_decide_eq_false hb;omega
        subst hqp;refine ⟨⟨by omega,by omega⟩,q+1,⟨hlt,?_,?_,?_⟩,by omega,by omega⟩
        · rw [Al.all_snoc _ _ _ hlt,hpr,hgl,hprL];rfl
        · rw [Al.q73 ls q hlt,Al.qg8,hnt,hgl,hnc];rfl
        · intro x hx
          rw [Al.q73 sm q (by omega),Qs] at hx
          rcases hx with hx | hx
          · exact hrg x hx
          · rw [Qb.1 hx,hgs]
            exact ⟨by omega,by omega⟩
  · have hpl:p=ls.length:=by have:=of_decide_eq_false hb;omega
    subst hpl;rw [Qk] at hpr hnt;rw [Qd (by omega)] at hrg
    refine ⟨⟨0,⟨Qf _,by simp⟩,rfl⟩,?_⟩
    rintro j ⟨hj,hfix⟩;refine bifP (λhb=>?_) λhb=>?_
    · have hjl:j<sm.length:=by have:=of_decide_eq_true hb;omega
      have hgs:sm[j]=sm.getD j 0:=by rw [Q0,Q3 hjl];rfl
      have hsm:sm.getD j 0∈sm:=by rw [← hgs];exact Qc hjl
      obtain ⟨r1,r2⟩:=hrg _ hsm;generalize hK0:sm.getD ((j:Int).toNat) 0=K;have hK:sm.getD j 0=K:=hK0;rw [hK] at hgs hsm r1 r2;refine ⟨⟨by omega,by omega⟩,⟨r1,by omega⟩,⟨by omega,by omega⟩,bifP (λhb=>?_) λhb=>⟨⟨by omega,by omega⟩,j+1,⟨hjl,?_⟩,by omega,by omega⟩⟩
      · have hb:sm.getD K.toNat 0≠K:=bne_iff_ne.1 hb
        refine no (.inr (.inr (.inr (.inr (.inr (.inr ⟨K,hsm,?_⟩))))));show (decide (0≤K)&&decide (K<(ls.length:Int))&&(sm.getD K.toNat 0==K))=false;rw [beq_eq_false_iff_ne.2 hb,Qg]
      · have hb:sm.getD K.toNat 0=K:=bne_eq_false_iff_eq.1 hb
        intro x hx;rw [Al.q73 sm j hjl,Qs] at hx;rcases hx with hx | hx
        · exact hfix x hx
        · rw [Qb.1 hx,hgs];exact hb
    · have hjl:sm.length≤j:=by have:=of_decide_eq_false hb;omega
      rw [Qd hjl] at hfix;refine (Al.is_formed (a:=alOf (nm,ls,sm)) hnm (by show 1≤ls.length;omega) (by show ls.length≤64;omega) hsl hpr hnt ?_).symm
      rw [Qh];intro x hx;obtain ⟨r1,r2⟩:=hrg x hx;show (decide (0≤x)&&decide (x<(ls.length:Int))&&(sm.getD x.toNat 0==x))=true;rw [decide_eq_true r1,decide_eq_true r2,beq_iff_eq.2 (hfix x hx)];rfl
set_option maxRecDepth 100000 in
theorem qll:qj6.Holds Tryz.prog:=by
 refine q20 (cons:=[cNameG]) Tryz.func67 (by kernel_rfl) (by kernel_rfl) mixed (by kernel_rfl) (λc h=>by obtain rfl:=Qb.1 h;exact qir) (λp=>anFormedG p.1 p.2.1 p.2.2) λp hp=>?_
 obtain ⟨nm,ls,sm⟩:=p;refine cast ?_ (formed_vcG nm ls sm hp)
 kernel_rfl
def q3g (p:AlP):Prop:=FewP p∧Al.q04 (alOf p)=true
def qcl (f:Nat):Con:=.of 69 [ckAl,.one .str] [.one .bool] (λp=>q3g p.1∧Q9 p.2<f) (λp=>Al.follows p.1.2.1 f p.2)
def anFollowsG (f:Nat) (ls:List (List UInt8)) (s:List UInt8):List (Nat×Ann) :=
 [ann 0 Nat [1,2] (λk=>[(5,R.int .i64 k)]) (λk=>k≤ls.length∧(ls.take k).any (λl=>s.isPrefixOf l||(l.isPrefixOf s&&Al.follows ls f (s.drop l.length)))=false) (λk=>ls.length-k)]
def cValidG:Con:=.of 41 [ckAl] [.one .bool] FewP (λp=>Al.q09 (alOf p))
def anValidG (ls:List (List UInt8)):List (Nat×Ann) :=
  [ann 0 Nat [1] (λk=>[(3,R.int .i64 k)]) (λi=>i≤ls.length∧∀ i'<i,∀ k<ls.length,Al.q2l ls i' k=false) (λi=>ls.length-i),
   annS 2 Nat [1,3] (λk=>[(4,R.int .i64 k)]) (λ_=>[]) (λst k=>k≤ls.length∧∀ k'<k,Al.q2l ls (st.intOf 3).toNat k'=false) (λst k=>ls.length-k)]
set_option maxRecDepth 100000 in
theorem follows_vcG (f:Nat) (nm:List UInt8) (ls:List (List UInt8)) (sm:List Int) (s:List UInt8) (h:(qcl (f+1)).pre ((nm,ls,sm),s)) :
    (∃ (p':Nat),(p'≤ls.length∧((Q8 p' ls).any λ(l:List UInt8)=>s.isPrefixOf l||l.isPrefixOf s&&Al.follows ls f (Q7 l.length s))=false)∧((0:Int)=(↑p' :
    Int)∧s=s∧True∧True)∧((nm=nm∧ls=ls∧sm=sm∧True)∧True)∧True∧True∧True∧True∧True∧True∧True∧True)∧∀ (p:Nat),p≤ls.length∧((Q8 p ls).any fun
    (l:List UInt8)=>s.isPrefixOf l||l.isPrefixOf s&&Al.follows ls f (Q7 l.length s))=false→bif decide ((p:Int)<(ls.length:Int)) then ((0:Int)≤(p:Int)∧(↑p :
    Int)<(ls.length:Int))∧True∧bif s.isPrefixOf (ls.getD (p:Int).toNat []) then true=Al.follows ls (f+(1:Nat)) s else ((0:Int)≤(p:Int)∧(p:Int)<(ls.length:Int))
    ∧ True∧bif (ls.getD (p:Int).toNat []).isPrefixOf s then ((0:Int)≤(p:Int)∧(p:Int)<(ls.length:Int))∧((0:Int)≤(↑(ls.getD (p:Int).toNat []).length:Int) ∧
    (↑(ls.getD (p:Int).toNat []).length:Int)≤(s.length:Int)∧(s.length:Int)≤(s.length:Int))∧(q3g (nm,ls,sm)∧(Q7 (↑(ls.getD (p:Int).toNat []).length :
    Int).toNat (Q8 (s.length:Int).toNat s)).length<f)∧bif Al.follows ls f (Q7 (↑(ls.getD (p:Int).toNat []).length:Int).toNat (Q8 (s.length:Int).toNat s)) then
    true=Al.follows ls (f+(1:Nat)) s else ((-9223372036854775808:Int)≤(p:Int)+(1:Int)∧(p:Int)+(1:Int)≤(9223372036854775807:Int))∧∃ (p':Nat),(p'≤ls.length ∧
    ((Q8 p' ls).any λ(l:List UInt8)=>s.isPrefixOf l||l.isPrefixOf s&&Al.follows ls f (Q7 l.length s))=false)∧ls.length-p'<ls.length-p∧((p:Int)+(1:Int)
    = (p':Int)∧s=s∧True∧True)∧((nm=nm∧ls=ls∧sm=sm∧True)∧True)∧True∧True∧True∧True∧True∧True∧True∧True else ((-9223372036854775808:Int)≤(p:Int) +
    (1:Int)∧(p:Int)+(1:Int)≤(9223372036854775807:Int))∧∃ (p':Nat),(p'≤ls.length∧((Q8 p' ls).any λ(l:List UInt8)=>s.isPrefixOf l||l.isPrefixOf s &&
    Al.follows ls f (Q7 l.length s))=false)∧ls.length-p'<ls.length-p∧((p:Int)+(1:Int)=(p':Int)∧s=s∧True∧True)∧((nm=nm∧ls=ls∧sm=sm∧True) ∧
    True)∧True∧True∧True∧True∧True∧True∧True∧True else false=Al.follows ls (f+(1:Nat)) s
     := by
  obtain ⟨⟨⟨h70,h20,hs70,hn⟩,hf⟩,hs⟩:=h;have h70:ls.length≤70:=h70;have hs:s.length<f+1:=hs;have hlet:∀ l∈ls,1≤l.length∧l.length≤3:=Al.q5r hf;have hfs:Al.follows ls (f+1) s=ls.any λl=>s.isPrefixOf l||l.isPrefixOf s&&Al.follows ls f (Q7 l.length s):=rfl
  simp only [true_and,and_true];refine ⟨⟨0,⟨Qf _,rfl⟩,rfl⟩,?_⟩;rintro p ⟨hp,hno⟩;refine bifP (λhb=>?_) λhb=>?_
  · have hlt:p<ls.length:=by have:=of_decide_eq_true hb;omega
    have hmem:ls.getD p []∈ls:=by rw [Q0,Q3 hlt];exact Qc hlt
    have hgl:ls[p]=ls.getD p []:=by rw [Q0,Q3 hlt];rfl
    generalize hL0:ls.getD ((p:Int).toNat) []=L;have hL:ls.getD p []=L:=hL0;rw [hL] at hmem hgl;obtain ⟨l1,l3⟩:=hlet L hmem;have yes:(s.isPrefixOf L||L.isPrefixOf s&&Al.follows ls f (Q7 L.length s))=true→true=Al.follows ls (f+1) s:=λh=>by
      rw [hfs];exact (Ql.2 ⟨L,hmem,h⟩).symm
    have nx:(s.isPrefixOf L||L.isPrefixOf s&&Al.follows ls f (Q7 L.length s))=false→(Q8 (p+1) ls).any (λl=>s.isPrefixOf l||l.isPrefixOf s&&Al.follows ls f (Q7 l.length s))=false:=λh=>by
      rw [Al.q73 ls p hlt,List.any_append,hno,hgl,Bool.false_or,List.any_cons,h];rfl
    have htk:Q8 ((s.length:Int).toNat) s=s:=Qk;have hdl:((L.length:Int).toNat)=L.length:=rfl;refine ⟨⟨by omega,by omega⟩,bifP (λh1=>yes (by rw [h1];rfl)) λh1=>⟨⟨by omega,by omega⟩,bifP (λh2=>?_) λh2=>⟨⟨by omega,by omega⟩,p+1,⟨hlt,nx (by rw [h1,h2];rfl)⟩,by omega,by omega⟩⟩⟩
    have hle:L.length≤s.length:=(Qe.1 h2).length_le;rw [htk,hdl];refine ⟨⟨by omega,by omega⟩,⟨by omega,by omega,by omega⟩,⟨⟨⟨h70,h20,hs70,hn⟩,hf⟩,by rw [Qi];omega⟩,bifP (λh3=>yes (by rw [h1,h2,h3];rfl)) λh3=>⟨⟨by omega,by omega⟩,p+1,⟨hlt,nx (by rw [h1,h2,h3];rfl)⟩,by omega,by omega⟩⟩
  · have hpl:p=ls.length:=by have:=of_decide_eq_false hb;omega
    subst hpl;rw [Qk] at hno;rw [hfs];exact hno.symm
set_option maxRecDepth 100000 in
theorem ql0 (f:Nat):(qcl f).Holds Tryz.prog:=by
 induction f with
 | zero =>
  refine q20 (cons:=[]) Tryz.func69 (by kernel_rfl) (by kernel_rfl) mixed (by kernel_rfl) (λc h=>by cases h) (λp=>[]) λp hp=>?_
  exact absurd hp.2 (Nat.not_lt_zero _)
 | succ f ih =>
  refine q20 (cons:=[qey,qcl f]) Tryz.func69 (by kernel_rfl) (by kernel_rfl) mixed (by kernel_rfl) (λc h=>by
   rcases Qm.1 h with rfl | h
   ·exact qan
   ·obtain rfl:=Qb.1 h;exact ih) (λp=>anFollowsG f p.1.2.1 p.2) λp hp=>?_
  obtain ⟨⟨nm,ls,sm⟩,s⟩:=p;refine cast ?_ (follows_vcG f nm ls sm s hp)
  kernel_rfl
set_option maxRecDepth 100000 in
theorem valid_vcG (nm:List UInt8) (ls:List (List UInt8)) (sm:List Int) (h:cValidG.pre (nm,ls,sm)) :
    FewP (nm,ls,sm)∧bif !Al.q04 (alOf (nm,ls,sm)) then false=Al.q09 (alOf (nm,ls,sm)) else (∃ (p':Nat),(p'≤ls.length∧∀ (i':Nat),i'<p'→∀ (k:Nat),k<ls.length →
    Al.q2l ls i' k=false)∧((0:Int)=(p':Int)∧True∧True)∧((nm=nm∧ls=ls∧sm=sm∧True)∧True)∧True∧True∧True∧True∧True∧True∧True∧True)∧∀ (p:Nat),
    (p≤ls.length∧∀ (i':Nat),i'<p→∀ (k:Nat),k<ls.length→Al.q2l ls i' k=false)→bif decide ((p:Int)<(ls.length:Int)) then (∃ (p':Nat),(p'≤ls.length∧∀ (k' :
    Nat),k'<p'→Al.q2l ls (p:Int).toNat k'=false)∧((0:Int)=(p':Int)∧True∧(p:Int)=(p:Int)∧True)∧((nm=nm∧ls=ls∧sm=sm∧True)∧True)∧True∧True
    ∧ True∧True∧True∧True∧True∧True)∧∀ (p_1:Nat),(p_1≤ls.length∧∀ (k':Nat),k'<p_1→Al.q2l ls (p:Int).toNat k'=false)→bif decide ((p_1:Int)<(↑ls.length :
    Int)) then ((0:Int)≤(p:Int)∧(p:Int)<(ls.length:Int))∧((0:Int)≤(p_1:Int)∧(p_1:Int)<(ls.length:Int))∧bif (p:Int) != (p_1:Int) then True∧bif
    (ls.getD (p_1:Int).toNat []).isPrefixOf (ls.getD (p:Int).toNat []) then ((0:Int)≤(↑(ls.getD (p_1:Int).toNat []).length:Int)∧(↑(ls.getD (p_1:Int).toNat []).length:Int) ≤
    (↑(ls.getD (p:Int).toNat []).length:Int)∧(↑(ls.getD (p:Int).toNat []).length:Int)≤(↑(ls.getD (p:Int).toNat []).length:Int))∧(q3g (nm,ls,sm)∧(Q7 (↑(ls.getD
    (p_1:Int).toNat []).length:Int).toNat (Q8 (↑(ls.getD (p:Int).toNat []).length:Int).toNat (ls.getD (p:Int).toNat []))).length<(4:Nat))∧bif Al.follows ls (4:Nat)
    (Q7 (↑(ls.getD (p_1:Int).toNat []).length:Int).toNat (Q8 (↑(ls.getD (p:Int).toNat []).length:Int).toNat (ls.getD (p:Int).toNat []))) then false=Al.q09 (alOf
    (nm,ls,sm)) else ((-9223372036854775808:Int)≤(p_1:Int)+(1:Int)∧(p_1:Int)+(1:Int)≤(9223372036854775807:Int))∧∃ (p':Nat),(p'≤ls.length∧∀ (k':Nat),k'<p'
    → Al.q2l ls (p:Int).toNat k'=false)∧ls.length-p'<ls.length-p_1∧((p_1:Int)+(1:Int)=(p':Int)∧True∧(p:Int)=(p:Int)∧True)∧((nm=nm∧ls=ls∧sm
    = sm∧True)∧True)∧True∧True∧True∧True∧True∧True∧True∧True else ((-9223372036854775808:Int)≤(p_1:Int)+(1:Int)∧(p_1:Int)+(1:Int)≤(9223372036854775807 :
    Int))∧∃ (p':Nat),(p'≤ls.length∧∀ (k':Nat),k'<p'→Al.q2l ls (p:Int).toNat k'=false)∧ls.length-p'<ls.length-p_1∧((p_1:Int)+(1:Int)=(p':Int) ∧
    True∧(p:Int)=(p:Int)∧True)∧((nm=nm∧ls=ls∧sm=sm∧True)∧True)∧True∧True∧True∧True∧True∧True∧True∧True else ((-9223372036854775808:Int)≤(↑p_1 :
    Int)+(1:Int)∧(p_1:Int)+(1:Int)≤(9223372036854775807:Int))∧∃ (p':Nat),(p'≤ls.length∧∀ (k':Nat),k'<p'→Al.q2l ls (p:Int).toNat k'=false)∧ls.length -
    p'<ls.length-p_1∧((p_1:Int)+(1:Int)=(p':Int)∧True∧(p:Int)=(p:Int)∧True)∧((nm=nm∧ls=ls∧sm=sm∧True)∧True)∧True∧True∧True∧True∧True ∧
    True∧True∧True else ((-9223372036854775808:Int)≤(p:Int)+(1:Int)∧(p:Int)+(1:Int)≤(9223372036854775807:Int))∧∃ (p':Nat),(p'≤ls.length∧∀ (i':Nat),i'<p'
    → ∀ (k:Nat),k<ls.length→Al.q2l ls i' k=false)∧ls.length-p'<ls.length-p∧((p:Int)+(1:Int)=(p':Int)∧True∧True)∧((nm=nm∧ls=ls∧sm=sm∧True) ∧
    True)∧True∧True∧True∧True∧True∧True∧True∧True else true=Al.q09 (alOf (nm,ls,sm))
     := by
  obtain ⟨h70,h20,hs70,hn⟩:=h;have h70:ls.length≤70:=h70;simp only [true_and,and_true];refine ⟨⟨h70,h20,hs70,hn⟩,bifP (λhb=>?_) λhfo=>?_⟩
  · have hb:Al.q04 (alOf (nm,ls,sm))=false:=by simpa using hb
    unfold Al.q09;rw [hb];rfl
  have hfo:Al.q04 (alOf (nm,ls,sm))=true:=by simpa using hfo
  have hlet:∀ l∈ls,1≤l.length∧l.length≤3:=Al.q5r hfo;have hvr:Al.q09 (alOf (nm,ls,sm))=!((Qv ls.length).any λi=>(Qv ls.length).any λk=>Al.q2l ls i k):=Al.valid_ref hfo
  refine ⟨⟨0,⟨Qf _,λi' h=>by omega⟩,rfl⟩,?_⟩
  rintro i ⟨hi,hall⟩;refine bifP (λhb=>?_) λhb=>?_
  · have hil:i<ls.length:=by have:=of_decide_eq_true hb;omega
    refine ⟨⟨0,⟨Qf _,λi' h=>by omega⟩,rfl⟩,?_⟩
    rintro k ⟨hk,hrow⟩;refine bifP (λhb=>?_) λhb=>?_
    · have hkl:k<ls.length:=by have:=of_decide_eq_true hb;omega
      have nx:Al.q2l ls i k=false→∀ k':Nat,k'<k+1→Al.q2l ls i k'=false:=λh k' hk'=>by
        rcases Nat.lt_or_ge k' k with h' | h'
        · exact hrow k' h'
        · rw [show k'=k from by omega];exact h
      have hIm:ls.getD i []∈ls:=by rw [Q0,Q3 hil];exact Qc hil
      have hKm:ls.getD k []∈ls:=by rw [Q0,Q3 hkl];exact Qc hkl
      have hrc:Al.q2l ls i k=(decide (i≠k)&&((ls.getD k []).isPrefixOf (ls.getD i [])&&Al.follows ls 4 (Q7 (ls.getD k []).length (ls.getD i [])))):=rfl;generalize hI0:ls.getD ((i:Int).toNat) []=I;generalize hK0:ls.getD ((k:Int).toNat) []=K;have hI:ls.getD i []=I:=hI0;have hK:ls.getD k []=K:=hK0;rw [hI] at hIm hrc;rw [hK] at hKm hrc;obtain ⟨i1,i3⟩:=hlet I hIm;obtain ⟨k1,k3⟩:=hlet K hKm;have htk:Q8 ((I.length:Int).toNat) I=I:=Qk;have hdl:((K.length:Int).toNat)=K.length:=rfl;refine ⟨⟨by omega,by omega⟩,⟨by omega,by omega⟩,bifP (λhne=>?_) λhe=>⟨⟨by omega,by omega⟩,k+1,⟨hkl,nx ?_⟩,by omega,by omega⟩⟩
      · have hne:i≠k:=by have:=bne_iff_ne.1 hne;omega
        refine bifP (λh2=>?_) λh2=>⟨⟨by omega,by omega⟩,k+1,⟨hkl,nx (by rw [hrc,h2,Qp,Qg])⟩,by omega,by omega⟩
        have hle:K.length≤I.length:=(Qe.1 h2).length_le;rw [htk,hdl];refine ⟨⟨by omega,by omega,by omega⟩,⟨⟨⟨h70,h20,hs70,hn⟩,hfo⟩,by rw [Qi];omega⟩,bifP (λh3=>?_) λh3=>⟨⟨by omega,by omega⟩,k+1,⟨hkl,nx (by rw [hrc,h2,h3,Qg,Qg])⟩,by omega,by omega⟩⟩
        rw [hvr];have:Al.q2l ls i k=true:=by rw [hrc,h2,h3,decide_eq_true hne];rfl
        rw [Ql.2 ⟨i,Qq.2 hil,Ql.2 ⟨k,Qq.2 hkl,this⟩⟩];rfl
      · have he:i=k:=by have:=bne_eq_false_iff_eq.1 he;omega
        rw [hrc,decide_eq_false (p:=i≠k) (by omega),Qp]
    · have hkl:k=ls.length:=by have:=of_decide_eq_false hb;omega
      subst hkl;refine ⟨⟨by omega,by omega⟩,i+1,⟨hil,λi' hi'=>?_⟩,by omega,by omega⟩
      rcases Nat.lt_or_ge i' i with h' | h'
      · exact hall i' h'
      · rw [show i'=i from by omega];exact hrow
  · have hpl:i=ls.length:=by have:=of_decide_eq_false hb;omega
    subst hpl;rw [hvr];have:((Qv ls.length).any λi=>(Qv ls.length).any λk=>Al.q2l ls i k)=false:=by
      rw [← Qj,Ql];rintro ⟨a,ha,h⟩;obtain ⟨b,hb,h⟩:=Ql.1 h;rw [hall a (Qq.1 ha) b (Qq.1 hb)] at h;cases h
    rw [this];rfl
set_option maxRecDepth 100000 in
theorem valid_holdsG:cValidG.Holds Tryz.prog:=by
 refine q20 (cons:=[qj6,qey,qcl 4]) Tryz.func41 (by kernel_rfl) (by kernel_rfl) mixed (by kernel_rfl) (λc h=>by
  rcases Qm.1 h with rfl | h
  ·exact qll
  rcases Qm.1 h with rfl | h
  ·exact qan
  ·obtain rfl:=Qb.1 h;exact ql0 4) (λp=>anValidG p.2.1) λp hp=>?_
 obtain ⟨nm,ls,sm⟩:=p;refine cast ?_ (valid_vcG nm ls sm hp)
 kernel_rfl
def iRowG (ks:List Int):Row:=⟨3,.one (.int .i64),ks⟩
def qgz:Con:=.of 25 [ckAl,.one .str] [.one (.sl (.one (.int .i64))),.one (.int .i64),.one (.int .i64)] (λp=>q3g p.1∧Q9 p.2≤1000000) (λp=>Al.q0m p.1.2.1 p.2)
def anLettersG (ls:List (List UInt8)) (s:List UInt8):List (Nat×Ann) :=
 [annR 0 (List Int×Nat) [1,2] (λp=>[(7,ownAV 30),(8,R.int .i64 p.2)]) (λp=>[(30,iRowG p.1)])
  (λp=>p.2≤s.length∧Q9 p.1≤24∧∃ f,Q9 (s.drop p.2)<f∧Al.q0m ls s=Al.collect p.1 (Al.places ls f p.2 (s.drop p.2))) (λp=>s.length-p.2)]
namespace R
def annX (l:Nat) (ι:Type) (at_:St→ι→St) (inv:St→ι→Prop) (mu:St→ι→Nat):Nat×Ann:=(l,{ ι:=ι,at_:=at_,inv:=inv,mu:=mu })
end R
abbrev ckB:CK:=.one .bool
abbrev q0n:Rul.Rule:=([],[],[],false)
def gPlain:Con:=.of 57 [q3a,q3l,q3l] [ckB] (λp=>Q9 p.1≤1000000000) (λp=>Rul.q0e p.1 p.2.1 p.2.2)
def anGPlain (s:List UInt8):List (Nat×Ann) :=
 [annX 0 Nat (λst k=>st.hd { live:=[0,1,2],sav:=[],box:=[] } [(7,R.int .i64 k)] [] [] [] none) (λ_ k=>k≤s.length∧(s.take k).all Al.q1o=true) (λ_ k=>s.length-k)]
def qhi:Con:=.of 32 [q0t] [ckB] FewR Rul.q04
def anGFormed (l:List Rul.Rule):List (Nat×Ann) :=
  [annX 0 Nat (λst k=>st.hd { live:=[1],sav:=[],box:=[1] } [(3,R.int .i64 k)] [] [] [] none) (λ_ k=>k≤l.length∧(l.take k).all Rul.q1g=true∧(l.take k).Nodup) (λ_ k=>l.length-k),
   annX 2 Nat (λst j=>st.hd { live:=[1,3,4],sav:=[],box:=[1,4] } [(5,R.int .i64 j)] [] [] [] none) (λst j=>j≤(st.intOf 3).toNat∧((l.take j).any λy=>y==l.getD (st.intOf 3).toNat q0n)=false) (λst j=>(st.intOf 3).toNat-j)]
def qf0:Con:=.of 27 [ckAl,q3a,q3l] [q55,ckB] (λp=>q3g p.1∧Q9 p.2.1≤1000000) (λp=>Rul.q07 p.1.2.1 p.2.1 p.2.2)
def gValid:Con:=.of 13 [q0t,ckAl,ckAl] [ckB] (λp=>FewR p.1∧FewP p.2.1∧FewP p.2.2) (λp=>Rul.q09 p.1 (alOf p.2.1) (alOf p.2.2))
def anGValid (l:List Rul.Rule) (f t:List (List UInt8)):List (Nat×Ann) :=
 [annX 0 Nat (λst k=>st.hd { live:=[3,4,5],sav:=[],box:=[3,4,5] } [(7,R.int .i64 k)] [] [] [] none) (λ_ k=>k≤l.length∧(l.take k).all (Rul.okIn f t)=true) (λ_ k=>l.length-k)]
def gStands:Con:=.of 26 [ckRule,ckAl,q55,q3l] [ckB] (λp=>FewT p.1∧q3g p.2.1∧Q9 p.2.2.1≤1000000∧0≤p.2.2.2∧p.2.2.2≤Q9 p.2.2.1)
 (λp=>Rul.q0x (Rul.q1b p.2.1.2.1 p.1) (Q7 (Qz p.2.2.2) p.2.2.1))
def anGStands (next word:List Int) (e:Nat):List (Nat×Ann) :=
 [annX 0 Nat (λst k=>st.hd { live:=[2,11,13],sav:=[],box:=[] } [(14,R.int .i64 k)] [] [] [] none) (λ_ k=>k≤next.length∧(e<word.length→(next.take k).contains (word.getD e 0)=false)) (λ_ k=>next.length-k)]
def gText:Con:=.of 9 [q0t] [q3a,q3l] FewR Rul.q56
def q2a (r:Rul.q11):List UInt8:=[114,117,108,101,115,32]++r.1++[32,116,111,32]++r.2.1++[59,10]
def anGText (r:Rul.q11):List (Nat×Ann) :=
 [annX 0 Nat (λst k=>st.hd { live:=[1],sav:=[],box:=[1] } [(4,str (q2a r++(r.2.2.take k).flatMap Rul.q0b)),(5,R.int .i64 k)] [] [] [] none) (λ_ k=>k≤r.2.2.length) (λ_ k=>r.2.2.length-k)]
end Go.Proofs.YtlmbfijhkcmncaaGreatDoor

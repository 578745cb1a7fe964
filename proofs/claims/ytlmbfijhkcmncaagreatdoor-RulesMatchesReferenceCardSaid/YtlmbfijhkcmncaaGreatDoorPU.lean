/-
  Several texts in one: RmI, RmX, RnD, RuKt.
-/
import Derived.Test.YtlmbfijhkcmncaaGreatDoorPS
import Derived.Test.YtlmbfijhkcmncaaGreatDoorPT
import Derived.Test.YtlmbfijhkcmncaaGreatDoorPR
open List renaming mem_cons→Q0,getD_eq_getElem?_getD→Q7,length_drop→Q8,mem_singleton→Qb,all_eq_true→Qc
open Bool renaming and_eq_true→Q3
open Nat renaming lt_succ_self→Q9,zero_le→Qa,not_lt_zero→Qd
set_option linter.unusedVariables false
namespace Go.Proofs.YtlmbfijhkcmncaaGreatDoor
open Go.RowKit R
namespace Lx
theorem scan_kind (l:List UInt8) (h:(scan l).err=0):(scan l).kind≠0:=by
 cases l with
 | nil=>exact absurd h (by decide)
 | cons c r =>
  revert h;unfold scan;simp only []
  repeat' split
  all_goals first | (intro _;show (1:Int)≠0;omega) | (intro _;show (2:Int)≠0;omega) | (intro _;show (3:Int)≠0;omega) | (intro _;show (4:Int)≠0;omega) | (intro h;exact absurd h (by decide))
theorem qka:∀ (f:Nat) (out:List Tok) (off:Nat) (l:List UInt8),(∀ t∈out,t.kind≠0)→∀ t∈(q4k f out off l).1,t.kind≠0
 | 0,out,off,l,h=>h
 | f+1,out,off,[],h=>h
 | f+1,out,off,c::r,h=>by
  by_cases he:(scan (c::r)).err=0
  ·by_cases h5:out.length=5000
   ·rw [qay _ _ _ _ _ he h5];exact λt ht=>by cases ht
   ·rw [qaj _ _ _ _ _ he h5]
    refine qka f _ _ _ λt ht=>?_
    rcases List.mem_append.1 ht with ht | ht
    ·exact h t ht
    ·obtain rfl:=Qb.1 ht
     exact scan_kind _ he
  ·rw [qaa _ _ _ _ _ he];exact λt ht=>by cases ht
theorem lex_kind (l:List UInt8):∀ t∈(lex l).1,t.kind≠0:=by
 unfold lex;split
 ·exact λt ht=>by cases ht
 ·exact qka _ _ _ _ λt ht=>by cases ht
end Lx
structure Good (ts:List Rul.TP) (e:Int) (x:RdP) (us:List Rul.TP):Prop where
 lst:x.1=ts
 idx:0≤x.2.1
 fin:x.2.1≤ts.length
 stop:x.2.2.1=e
 err:x.2.2.2.1=0
 left:us=ts.drop x.2.1.toNat
def Sim {α:Type} (ts:List Rul.TP) (e:Int) (out:Except Rul.Flt (α×List Rul.TP)) (r:α) (y:RdP):Prop :=
 match out with
 | .ok p=>r=p.1∧Good ts e y p.2
 | .error q=>y.2.2.2=q∧q.1≠0
theorem Sim.bind {α β:Type} {ts:List Rul.TP} {e:Int} {out:Except Rul.Flt (α×List Rul.TP)} {r:α} {y:RdP} (h:Sim ts e out r y) {f:α×List Rul.TP→Except Rul.Flt (β×List Rul.TP)} {r':β} {y':RdP}
  (ha:Ahead y y') (hf:∀ vs,Good ts e y vs→Sim ts e (f (r,vs)) r' y'):Sim ts e (out.bind f) r' y':=by
 cases out with
 | ok p =>
  obtain ⟨h1,h2⟩:=h;have:=hf p.2 h2;rw [h1] at this;exact this
 | error q =>
  obtain ⟨h1,h2⟩:=h;refine ⟨?_,h2⟩;rw [ha.err (by rw [h1];exact h2)];exact h1
section
variable {ts:List Rul.TP} {e:Int} (hk:∀ t∈ts,t.1≠0)
theorem qcm {x:RdP} {us:List Rul.TP} (h:Good ts e x us):(us=[]∧x.1.length≤x.2.1∧x.1.getD x.2.1.toNat tok0=tok0)∨(∃ t r,us=t::r∧t∈ts∧x.2.1<x.1.length∧x.1.getD x.2.1.toNat tok0=t∧Good ts e (q3y x) r):=by
 obtain ⟨h1,h2,h3,h4,h5,h6⟩:=h;rw [h1];by_cases hl:x.2.1.toNat<ts.length
 ·right
  have hd:=List.drop_eq_getElem_cons hl;have hg:ts.getD x.2.1.toNat tok0=ts[x.2.1.toNat]:=by rw [Q7,List.getElem?_eq_getElem hl];rfl
  refine ⟨_,_,by rw [h6,hd],List.getElem_mem hl,by omega,hg,h1,by show 0≤x.2.1+1;omega,by show x.2.1+1≤_;omega,h4,h5,?_⟩
  show _=ts.drop (x.2.1+1).toNat;rw [show (x.2.1+1).toNat=x.2.1.toNat+1 by omega]
 ·left
  refine ⟨by rw [h6,List.drop_eq_nil_of_le (by omega)],by omega,?_⟩
  rw [Q7,List.getElem?_eq_none (by omega)];rfl
theorem q8k {x:RdP} (h:x.2.2.2.1=0) (c a:Int):(q0y x c a).2.2.2=(c,a):=by
 unfold q0y;rw [h];rfl
include hk
theorem q66 {x:RdP} {us:List Rul.TP} (h:Good ts e x us) (k:Int) (s:List UInt8):Sim ts e (Rul.q05 e k s us) (q0d x k s).1 (q0d x k s).2:=by
 rcases qcm h with ⟨rfl,h1,h2⟩ | ⟨t,r,rfl,hm,h1,h2,h3⟩
 ·have hz:((Rul.q14 e []).1==0)=true:=rfl
  unfold Rul.q05 q0d;rw [if_pos hz,decide_eq_true h1,h.stop];exact ⟨q8k h.err _ _,by show (6:Int)≠0;omega⟩
 ·have hn:Rul.q14 e (t::r)=t:=rfl
  have ht:=hk t hm;unfold Rul.q05 q0d;rw [hn,h2,if_neg (by rw [beq_iff_eq];exact ht),decide_eq_false (by omega)]
  cases hb:!(t.1==k)||(!(s==[])&&!(t.2.2.2==s))
  ·exact ⟨rfl,h3⟩
  ·refine ⟨?_,by show (5:Int)≠0;omega⟩
   show (q0y x 5 t.2.1).2.2.2=_;exact q8k h.err _ _
theorem qj8 {x:RdP} {us:List Rul.TP} (hx:okRd x) (h:Good ts e x us) (lo hi:Int):Sim ts e (Rul.q3k e lo hi us) (q0b x lo hi).1 (q0b x lo hi).2:=by
 have ha:=q0w hx 3 [];refine (q66 hk h 3 []).bind ?_ λvs hv=>?_
 ·unfold q0b
  dsimp only;cases Rul.q0e (q0d x 3 []).1.2.2.2 lo hi
  ·exact q6k (ha.ok hx) _ _
  ·exact Ahead.refl (ha.ok hx)
 ·unfold q0b
  dsimp only;cases Rul.q0e (q0d x 3 []).1.2.2.2 lo hi
  ·exact ⟨q8k hv.err _ _,by show (1:Int)≠0;omega⟩
  ·exact ⟨rfl,hv⟩
omit hk in
theorem sees_sim {x:RdP} {us:List Rul.TP} (h:Good ts e x us) (s:List UInt8):q4p x s=((Rul.q14 e us).1==1&&(Rul.q14 e us).2.2.2==s):=by
 unfold q4p;rw [h.err];rcases qcm h with ⟨rfl,h1,h2⟩ | ⟨t,r,rfl,hm,h1,h2,h3⟩
 ·rw [decide_eq_false (by omega)];rfl
 ·rw [decide_eq_true h1,h2];rfl
theorem tail_sim {x:RdP} {us:List Rul.TP} (hx:okRd x) (h:Good ts e x us) (f t:List UInt8):Sim ts e (Rul.q5d e f t us) (q6p f t x).1 (q6p f t x).2:=by
 have s1:=sees_sim h Rul.q76;have s2:=sees_sim h Rul.wAt;unfold q6p Rul.q5d;rw [s1,s2];have tk:∀ s:List UInt8,((Rul.q14 e us).1==1)=true→((Rul.q14 e us).2.2.2==s)=true→∃ r,Rul.q05 e 1 s us=.ok (Rul.q14 e us,r)∧Good ts e (q3y x) r∧okRd (q3y x):=λs a b=>by
  rcases qcm h with ⟨rfl,h1,h2⟩ | ⟨t,r,rfl,hm,h1,h2,h3⟩
  ·cases a
  ·refine ⟨r,?_,h3,(q68 hx h1).ok hx⟩
   have ht:=hk t hm;have a:(t.1==1)=true:=a;have b:(t.2.2.2==s)=true:=b;unfold Rul.q05;rw [show Rul.q14 e (t::r)=t from rfl,if_neg (by rw [beq_iff_eq];exact ht),a,b]
   rw [if_neg (by simp)]
   rfl
 cases c1:(Rul.q14 e us).1==1
 ·exact ⟨rfl,h⟩
 rw [if_pos rfl];cases c2:(Rul.q14 e us).2.2.2==Rul.q76
 ·rw [if_neg (by simp)]
  cases c3:(Rul.q14 e us).2.2.2==Rul.wAt
  ·exact ⟨rfl,h⟩
  ·obtain ⟨r,h1,h2,h3⟩:=tk _ c1 c3
   rw [if_pos rfl,h1];show Sim ts e ((Rul.q05 e 1 Rul.wEnd r).bind _) (f,t,[],true) (q0d (q3y x) 1 Rul.wEnd).2;exact (q66 hk h2 1 Rul.wEnd).bind (Ahead.refl ((q0w h3 1 Rul.wEnd).ok h3)) λvs hv=>⟨rfl,hv⟩
 ·obtain ⟨r,h1,h2,h3⟩:=tk _ c1 c2
  rw [if_pos rfl,h1];show Sim ts e ((Rul.q3k e 1 30 r).bind _) (f,t,(q0b (q3y x) 1 30).1,false) (q0b (q3y x) 1 30).2;exact (qj8 hk h3 h2 1 30).bind (Ahead.refl ((q47 h3 1 30).ok h3)) λvs hv=>⟨rfl,hv⟩
theorem rule_sim {x:RdP} {us:List Rul.TP} (hx:okRd x) (h:Good ts e x us):Sim ts e (Rul.q62 e us) (q27 x).1 (q27 x).2:=by
 have h1:=q47 hx 1 9;have k1:=h1.ok hx;have h2:=q0w k1 1 Rul.wTo;have k2:=h2.ok k1;have h3:=q47 k2 0 9;have k3:=h3.ok k2;have h4:=qeo k3 (q0b x 1 9).1 (q0b (q0d (q0b x 1 9).2 1 Rul.wTo).2 0 9).1;unfold q27 Rul.q62;exact (qj8 hk hx h 1 9).bind ((h2.trans h3).trans h4) λv1 g1=>(q66 hk g1 1 Rul.wTo).bind (h3.trans h4) λv2 g2=>(qj8 hk k2 g2 0 9).bind h4 λv3 g3=>tail_sim hk k3 g3 _ _
theorem more_sim {x:RdP} {us:List Rul.TP} (hx:okRd x) (h:Good ts e x us) (acc:List Rul.Rule):Sim ts e (Rul.q39 e acc us) (q2c acc x).1 (q2c acc x).2:=by
 have hn:(x.1.getD x.2.1.toNat tok0).1=(Rul.q14 e us).1∧((x.1.getD x.2.1.toNat tok0).1≠0→(x.1.getD x.2.1.toNat tok0).2.1=(Rul.q14 e us).2.1):=by
  rcases qcm h with ⟨rfl,h1,h2⟩ | ⟨t,r,rfl,hm,h1,h2,h3⟩
  ·rw [h2];exact ⟨rfl,λh=>absurd rfl h⟩
  ·rw [h2];exact ⟨rfl,λ_=>rfl⟩
 have hful:q5l acc x=(acc.length==80&&(Rul.q14 e us).1==3):=by unfold q5l;rw [hn.1]
 have h1:=qaw hx acc;have k1:=h1.ok hx;have h2:=qba k1;have k2:=h2.ok k1;have h3:=q0w k2 4 [59];have k3:=h3.ok k2;have h4:=qd0 k3 acc (q27 (q1n acc x)).1 (q0d (q27 (q1n acc x)).2 4 [59]).1.2.1;unfold Rul.q39;rw [← hful];by_cases hf:q5l acc x=true
 ·rw [if_pos hf]
  have he:(q1n acc x).2.2.2=(2,(Rul.q14 e us).2.1):=by
   unfold q1n;rw [hf];rw [hn.2 (by
    have:=hf
    unfold q5l at this;rw [Q3] at this;have h3:(x.1.getD x.2.1.toNat tok0).1=3:=by simpa using this.2
    rw [h3];omega)]
   exact q8k h.err _ _
  refine ⟨?_,by show (2:Int)≠0;omega⟩
  show (q2c acc x).2.2.2.2=_;rw [← he];exact ((h2.trans h3).trans h4).err (by rw [he];show (2:Int)≠0;omega)
 ·rw [if_neg hf]
  have hf:q5l acc x=false:=by simpa using hf
  have hm:q1n acc x=x:=by unfold q1n;rw [hf];rfl
  unfold q2c;rw [hm];rw [hm] at h3 h4;refine (rule_sim hk hx h).bind (h3.trans h4) λv1 g1=>(q66 hk g1 4 [59]).bind h4 λv2 g2=>?_
  unfold q1c;have hc:acc.contains (q27 x).1=acc.any λy=>y==(q27 x).1:=by
   rw [Bool.eq_iff_iff,List.contains_iff_mem,List.any_eq_true];exact ⟨λh=>⟨_,h,beq_self_eq_true _⟩,λ⟨y,hy,e⟩=>by rw [← eq_of_beq e];exact hy⟩
  show Sim ts e (if acc.contains (q27 x).1 then .error (8,(q0d (q27 x).2 4 [59]).1.2.1) else .ok (acc++[(q27 x).1],v2)) _ _
  rw [hc];cases acc.any λy=>y==(q27 x).1
  ·exact ⟨rfl,g2⟩
  ·exact ⟨q8k g2.err _ _,by show (8:Int)≠0;omega⟩
theorem run_sim:∀ (g f:Nat) (acc:List Rul.Rule) (x:RdP) (us:List Rul.TP),okRd x→Good ts e x us→us.length<g→q65 x<f →
  match Rul.q1v g e acc us with
  | .ok l=>(runR f acc x).1=l∧(runR f acc x).2.2.2.2.1=0
  | .error q=>(runR f acc x).2.2.2.2=q∧q.1≠0
 | 0,_,_,_,_,_,_,h,_=>absurd h (Qd _)
 | _+1,0,_,_,_,_,_,_,h=>absurd h (Qd _)
 | g+1,f+1,acc,x,us,hx,h,hg,hf=>by
  have hm:q4h acc x=(acc.length==0||decide (0<us.length)):=by
   unfold q4h;rw [h.err];have hul:us.length=ts.length-x.2.1.toNat:=by rw [h.left,Q8]
   have:=h.idx
   have:=h.fin
   rw [h.lst,show decide (x.2.1<(ts.length:Int))=decide (0<us.length) from decide_eq_decide.2 (by omega),Bool.or_comm]
   rfl
  have hr:runR (f+1) acc x=bif q4h acc x then runR f (q2c acc x).1 (q2c acc x).2 else (acc,x):=rfl
  have hlm:Rul.q1v (g+1) e acc us=if acc.length==0||decide (0<us.length) then (Rul.q39 e acc us).bind λx=>Rul.q1v g e x.1 x.2 else .ok acc:=rfl
  rw [hr,hlm,← hm];cases hb:q4h acc x
  ·exact ⟨rfl,h.err⟩
  rw [if_pos rfl];have hs:=more_sim hk hx h acc;have ha:=qfc hx acc;cases ho:Rul.q39 e acc us with
  | error q =>
   rw [ho] at hs;obtain ⟨h1,h2⟩:=hs;have hne:q4h (q2c acc x).1 (q2c acc x).2=false:=by
    unfold q4h;rw [h1,beq_eq_false_iff_ne.2 h2];rfl
   have he:runR f (q2c acc x).1 (q2c acc x).2=q2c acc x:=by
    cases f with
    | zero=>rfl
    | succ f =>
     show (bif q4h (q2c acc x).1 (q2c acc x).2 then _ else _)=_
     rw [hne];rfl
   show (runR f (q2c acc x).1 (q2c acc x).2).2.2.2.2=q∧q.1≠0;rw [he];exact ⟨h1,h2⟩
  | ok p =>
   rw [ho] at hs;obtain ⟨h1,h2⟩:=hs;have hl:=qg9 hx acc h.err;have hi:=qjo hx acc;have hup:p.2.length<us.length:=by
    have a1:p.2.length=ts.length-(q2c acc x).2.2.1.toNat:=by rw [h2.left,Q8]
    have a2:us.length=ts.length-x.2.1.toNat:=by rw [h.left,Q8]
    have a3:=h2.fin;have a4:=h.idx;rcases hi with hi | hi
    ·omega
    ·exact absurd h2.err hi
   have:=run_sim g f (q2c acc x).1 (q2c acc x).2 p.2 (ha.ok hx) h2 (by omega) (by omega)
   rw [h1] at this;rw [h1];exact this
end
theorem parse_same (s:List UInt8):q18 s=Rul.q2s s:=by
 unfold q18 Rul.q2s;cases hl:(Lx.lex s).2.1==0
 ·rfl
 rw [if_pos rfl];show endR _ _ _=_;have h0:=rd0_ok s;have hk:∀ t∈(Lx.lex s).1.map Rul.tp,t.1≠0:=λt ht=>by
  obtain ⟨t',ht',rfl⟩:=List.mem_map.1 ht;exact Lx.lex_kind s t' ht'
 have g0:Good ((Lx.lex s).1.map Rul.tp) s.length (rd0 s) ((Lx.lex s).1.map Rul.tp):=⟨rfl,Int.le_refl _,Int.natCast_nonneg _,rfl,rfl,rfl⟩;generalize (Lx.lex s).1.map Rul.tp=ts at *
 generalize (s.length:Int)=e at *
 generalize rd0 s=x at *
 have a1:=q0w h0 1 Rul.q4o;have k1:=a1.ok h0;have a2:=q0w k1 1 [];have k2:=a2.ok k1;have a3:=q0w k2 1 Rul.wTo;have k3:=a3.ok k2;have a4:=q0w k3 1 [];have k4:=a4.ok k3;have a5:=q0w k4 4 [59];have k5:=a5.ok k4;have hh:Sim ts e ((Rul.q05 e 1 Rul.q4o ts).bind λx=>(Rul.q05 e 1 [] x.2).bind λa=>(Rul.q05 e 1 Rul.wTo a.2).bind λy=>(Rul.q05 e 1 [] y.2).bind λb=>(Rul.q05 e 4 [59] b.2).bind λz=>.ok ((a.1.2.2.2,b.1.2.2.2),z.2)) ((q4j x).1,(q4j x).2.1) (q4j x).2.2 :=
  (q66 hk g0 1 Rul.q4o).bind (((a2.trans a3).trans a4).trans a5) λv1 g1=>(q66 hk g1 1 []).bind ((a3.trans a4).trans a5) λv2 g2=>(q66 hk g2 1 Rul.wTo).bind (a4.trans a5) λv3 g3=>(q66 hk g3 1 []).bind a5 λv4 g4=>(q66 hk g4 4 [59]).bind (Ahead.refl k5) λv5 g5=>⟨rfl,g5⟩
 have hq:Rul.q5w e ts=((Rul.q05 e 1 Rul.q4o ts).bind λx=>(Rul.q05 e 1 [] x.2).bind λa=>(Rul.q05 e 1 Rul.wTo a.2).bind λy=>(Rul.q05 e 1 [] y.2).bind λb=>(Rul.q05 e 4 [59] b.2).bind λz=>.ok ((a.1.2.2.2,b.1.2.2.2),z.2)).bind λ(p:(List UInt8×List UInt8)×List Rul.TP)=>.ok (p.1.1,p.1.2,p.2):=by
  unfold Rul.q5w;simp only [e_assoc];rfl
 unfold Rul.q6d;rw [hq];generalize ((Rul.q05 e 1 Rul.q4o ts).bind λx=>(Rul.q05 e 1 [] x.2).bind λa=>(Rul.q05 e 1 Rul.wTo a.2).bind λy=>(Rul.q05 e 1 [] y.2).bind λb=>(Rul.q05 e 4 [59] b.2).bind λz=>.ok ((a.1.2.2.2,b.1.2.2.2),z.2))=out at *
 have kh:=(qed h0).ok h0;generalize q4j x=H at *
 cases out with
 | error q =>
  obtain ⟨h1,h2⟩:=hh;have hne:q4h [] H.2.2=false:=by
   unfold q4h;rw [h1,beq_eq_false_iff_ne.2 h2];rfl
  have he:runR (q65 H.2.2+1) [] H.2.2=([],H.2.2):=by
   show (bif q4h [] H.2.2 then _ else _)=_
   rw [hne];rfl
  rw [he];unfold endR;rw [h1,beq_eq_false_iff_ne.2 h2];rfl
 | ok p =>
  obtain ⟨h1,h2⟩:=hh;have hr:=run_sim hk (p.2.length+1) (q65 H.2.2+1) [] H.2.2 p.2 kh h2 (Q9 _) (Q9 _);show endR _ _ _=match (Rul.q1v (p.2.length+1) e [] p.2).bind λl=>Except.ok (p.1.1,p.1.2,l) with
   | .ok r=>(r,0,0)
   | .error x=>(([],[],[]),x.1,x.2)
  cases ho:Rul.q1v (p.2.length+1) e [] p.2 with
  | ok l =>
   rw [ho] at hr;obtain ⟨r1,r2⟩:=hr;unfold endR;rw [r2,r1,show H.1=p.1.1 from congrArg Prod.fst h1,show H.2.1=p.1.2 from congrArg Prod.snd h1];rfl
  | error q =>
   rw [ho] at hr;obtain ⟨r1,r2⟩:=hr;unfold endR;rw [r1,beq_eq_false_iff_ne.2 r2];rfl
theorem qlc {r:Rul.q11} (h:q2p r=true):FewR r:=by
 unfold q2p at h;simp only [Q3,decide_eq_true_eq,Qc] at h;obtain ⟨h1,h2,h3,h4⟩:=h;refine ⟨by omega,by omega,by omega,λx hx=>?_⟩
 have:=h2 x hx
 unfold q5t at this;simp only [Q3,decide_eq_true_eq] at this;exact ⟨by omega,by omega,by omega⟩
theorem qfn {p:AlP} (h:q1x p=true):FewP p:=by
 unfold q1x at h;simp only [Q3,decide_eq_true_eq,Qc] at h;exact ⟨h.1,h.2.1,h.2.2.1,h.2.2.2⟩
theorem parse_fewM {s:List UInt8} (hs:s.length≤5000):(Rul.q2s s).1.2.2.length≤80:=by
 rcases Rul.parse_out hs with ⟨_,_,h⟩ | ⟨_,h,_⟩
 ·exact (Rul.qf4 h).2.2.2.1
 ·rw [h];exact Qa _
theorem write_fewM {rs:List Rul.q0g} {w:List Int} (h:(Rul.q40 rs w).2=0):(Rul.q40 rs w).1.length≤200:=by
 unfold Rul.q40 at h ⊢;split
 ·exact Qa _
 ·rename_i hn
  have hn:(List.range (w.length+1)).any (Rul.q4e rs w)=false:=by simpa using hn
  have:=List.any_eq_false.1 hn w.length (List.mem_range.2 (Q9 _))
  unfold Rul.q4e at this;simp only [decide_eq_true_eq] at this;show (Rul.setOf (Rul.tabs rs w w.length w.length)).length≤200;omega
theorem writ_mostM (r:Rul.q11) (f t:Al.Alph) (s:List UInt8):(Rul.q21 r f t s).1.length≤200:=by
 unfold Rul.q21;split
 ·rcases Rul.write_err (r.2.2.map (Rul.q1b f.letters)) (Al.q0m f.letters s).1 with h | h
  ·exact write_fewM h
  ·rw [h];exact Qa _
 ·exact Qa _
set_option maxRecDepth 100000 in
theorem lrm_vc (r:Rul.q11) (f t:AlP) (s x:List UInt8) (h:cLRm.pre (r,f,t,s,x)) :
    True∧(BigR r∧BigA f∧BigA t)∧bif !(q2p r&&(q1x f&&(q1x t&&decide (s.length≤(100:Nat))))) then true=true else bif decide ((3000:Int)<(x.length:Int)) then true
    = true else (FewR r∧FewP f∧FewP t∧s.length≤(1000000:Nat))∧(FewR r∧FewP f∧FewP t∧s.length≤(1000000:Nat))∧FewR r∧FewR r∧x.length≤(1000000:Nat)∧x.length ≤
    (1000000:Nat)∧(FewR r∧FewP f∧FewP t)∧(FewR r∧FewP f∧FewP t)∧bif Rul.q09 r (alOf f) (alOf t)==Rul.q09 r (alOf f) (alOf t) then bif (Rul.q21 r (alOf f) (alOf t)
    s).2==(Rul.q21 r (alOf f) (alOf t) s).2 then ((Rul.q21 r (alOf f) (alOf t) s).1.length≤(1000000000:Nat)∧(Rul.q21 r (alOf f) (alOf t) s).1.length≤(1000000000 :
    Nat))∧bif (Rul.q21 r (alOf f) (alOf t) s).1==(Rul.q21 r (alOf f) (alOf t) s).1 then bif (Rul.q56 r).1==(Rul.q56 r).1 then bif (Rul.q56 r).2==(Rul.q56 r).2 then
    bif (Rul.q2s x).2.1==(q18 x).2.1 then bif (Rul.q2s x).2.2==(q18 x).2.2 then ((Rul.q2s x).1.2.2.length≤(1000000000:Nat)∧(q18 x).1.2.2.length≤(1000000000:Nat))
    ∧ ((Rul.q2s x).1.1==(q18 x).1.1&&((Rul.q2s x).1.2.1==(q18 x).1.2.1&&(Rul.q2s x).1.2.2==(q18 x).1.2.2))=true else false=true else false=true else false =
    true else false=true else false=true else false=true else false=true
     := by
  obtain ⟨g1,g2,g3,g4,g5⟩:=h;simp only [true_and,and_true,parse_same,beq_self_eq_true,cond_true,Bool.and_self];refine ⟨⟨g1,g2,g3⟩,bifP (λ_=>trivial) λh1=>bifP (λ_=>trivial) λh2=>?_⟩
  have h1:(q2p r&&(q1x f&&(q1x t&&decide (s.length≤100))))=true:=by simpa using h1
  simp only [Q3,decide_eq_true_eq] at h1;obtain ⟨k1,k2,k3,k4⟩:=h1;have hx:x.length≤3000:=by have:=of_decide_eq_false h2;omega
  have fr:=qlc k1;have ff:=qfn k2;have ft:=qfn k3;have hm:=writ_mostM r (alOf f) (alOf t) s;have hp:=parse_fewM (s:=x) (by omega)
  have e1:s.length≤1000000:=by omega
  have e2:x.length≤1000000:=by omega
  have e3:(Rul.q21 r (alOf f) (alOf t) s).1.length≤1000000000:=by omega
  have e4:(Rul.q2s x).1.2.2.length≤1000000000:=by omega
  exact ⟨⟨fr,ff,ft,e1⟩,⟨fr,ff,ft,e1⟩,fr,fr,e2,e2,⟨fr,ff,ft⟩,⟨fr,ff,ft⟩,⟨e3,e3⟩,e4,e4⟩
set_option maxRecDepth 100000 in
theorem lrm_holds:cLRm.Holds Tryz.prog:=by
 refine q20 (cons:=consRm) Tryz.func3 (by kernel_rfl) (by kernel_rfl) mixed (by kernel_rfl) (λc h=>by
  rcases Q0.1 h with rfl | h
  ·exact head11_holds
  rcases Q0.1 h with rfl | h
  ·exact fewa11_holds
  rcases Q0.1 h with rfl | h
  ·exact qkh
  rcases Q0.1 h with rfl | h
  ·exact gWrit_holds
  rcases Q0.1 h with rfl | h
  ·exact textr_holds
  rcases Q0.1 h with rfl | h
  ·exact gText_holds
  rcases Q0.1 h with rfl | h
  ·exact qi1
  rcases Q0.1 h with rfl | h
  ·exact gParse_holds
  rcases Q0.1 h with rfl | h
  ·exact qfw
  rcases Q0.1 h with rfl | h
  ·exact qg6
  rcases Q0.1 h with rfl | h
  ·exact qim
  ·obtain rfl:=Qb.1 h;exact same_holds) (λ_=>[]) λp hp=>?_
 obtain ⟨r,f,t,s,x⟩:=p;refine cast ?_ (lrm_vc r f t s x hp)
 kernel_rfl
theorem kt_str:CKT Tryz.prog (.one .str) 9:=Tryz.underlying9
theorem kt_al:CKT Tryz.prog ckAl 28 :=
 ⟨⟨_,Tryz.underlying28⟩,by kernel_rfl,⟨_,_,_,Tryz.underlying28,rfl,rfl,by kernel_rfl,Tryz.underlying9,⟨_,_,rfl,rfl,by kernel_rfl,⟨_,Tryz.underlying25,by kernel_rfl,.inl Tryz.underlying9⟩,⟨_,rfl,rfl,by kernel_rfl,⟨_,Tryz.underlying26,by kernel_rfl,.inl Tryz.underlying3⟩⟩⟩⟩⟩
theorem kds_rule:KdsT Tryz.prog q7u 45 :=
 ⟨_,_,_,Tryz.underlying45,rfl,rfl,by kernel_rfl,Tryz.underlying9,⟨_,_,rfl,rfl,by kernel_rfl,Tryz.underlying9,⟨_,_,rfl,rfl,by kernel_rfl,Tryz.underlying9,⟨_,rfl,rfl,by kernel_rfl,Tryz.underlying4⟩⟩⟩⟩
theorem kt_rules:CKT Tryz.prog q0t 24 :=
 ⟨⟨_,Tryz.underlying24⟩,by kernel_rfl,⟨_,_,_,Tryz.underlying24,rfl,rfl,by kernel_rfl,Tryz.underlying9,⟨_,_,rfl,rfl,by kernel_rfl,Tryz.underlying9,⟨_,rfl,rfl,by kernel_rfl,⟨_,Tryz.underlying22,by kernel_rfl,kds_rule⟩⟩⟩⟩⟩
end Go.Proofs.YtlmbfijhkcmncaaGreatDoor

/-
  Several texts in one: LexNext, LexNext2, LexClasses, LexNew, LexLex, PLex, SoSpec, SoStep, RuSpec, RuP, LexLaw, AlName, AlNamed.
-/
import Derived.Test.YtlmbfijhkcmncaaGreatDoorPL
import Derived.WalkSmall
import Derived.Lib.SmallJoins
import Derived.Deep.WholeRow
import Derived.Test.YtlmbfijhkcmncaaGreatDoorShelf
import Derived.Laws.RangeAny
open Go.Lib renaming hid→Q0,indexAny→Qc,hasPrefix→Qt,extract_data→Qv,idxFuncFrom→QD,indexAny_ge→QZ,toList_data→We
open Nat renaming le_refl→Q3,zero_add→Qf,add_zero→Qh,add_sub_cancel_left→Qp,min_eq_left→QE,lt_or_ge→QQ
open List renaming length_drop→Q7,take_succ_cons→Qa,drop_eq_nil_of_le→Qb,length_cons→Qd,drop_zero→Qe,drop_drop→Qg,take_of_length_le→Qk,all_cons→Qm,length_append→Qn,getD_eq_getElem?_getD→Qu,getElem?_eq_getElem→Qy,all_eq_true→Qz,foldl_cons→QC,length_singleton→QH,take_take→QJ,range→QK,mem_cons→QO,getElem?_take→QS,getElem?_map→QU,length→QW,length_take→QY,isPrefixOf→W9,head?_cons→Wd
open Int renaming toNat_natCast→Q8,eq_ofNat_of_zero_le→QA
open Bool renaming and_eq_true→Q9,false_eq_true→Qi,eq_iff_iff→Qj,eq_false_or_eq_true→Qw,false_and→QG,true_and→QL,false_or→QN,and_true→QP
open Array renaming getElem?_modify→Ql,ext_getElem?→QR,size_append→QV
open UInt8 renaming toNat_lt→Qo,ofNat→Qq,le_iff_toNat_le→Qr
open Go.World renaming cell?_alloc_at→Qs,setRow→Qx,setRow_alloc_new→QF
open Go.Value renaming oneCell'→Wh,int→Wi
set_option linter.unusedVariables false
namespace Go.Proofs.YtlmbfijhkcmncaaGreatDoor
open Go.RowKit
attribute [local go_sem] q12 q0q q0s
namespace Lx
theorem q3u (P:UInt8→Bool) (h:∀ c:Fin 256,P (Qq c.val)=true) (c:UInt8):P c=true:=by
 have h1:=h ⟨c.toNat,Qo c⟩
 simpa using h1
theorem q3s (c:UInt8):q17 c=(cls c==3):=by
 simpa using q3u (λc=>q17 c==(cls c==3)) (by decide +kernel) c
theorem q3x (c:UInt8):isDigit c=(cls c==4):=by
 simpa using q3u (λc=>isDigit c==(cls c==4)) (by decide +kernel) c
theorem q74 (c:UInt8):(c==34)=(cls c==6):=by
 simpa using q3u (λc=>(c==34)==(cls c==6)) (by decide +kernel) c
theorem qet (c:UInt8):(c==33)=(cls c==7):=by
 simpa using q3u (λc=>(c==33)==(cls c==7)) (by decide +kernel) c
theorem qcj (c:UInt8):(c==60||c==62)=(cls c==8):=by
 have h:=q3u (λc=>(c==60||c==62)==(cls c==8)) (by decide +kernel) c
 rwa [beq_iff_eq] at h
theorem cls_sym (c:UInt8):q93 c=(cls c==9):=by
 simpa using q3u (λc=>q93 c==(cls c==9)) (by decide +kernel) c
theorem qjg (c:UInt8):isWord c=(cls c==3||cls c==4||cls c==5):=by
 have h:=q3u (λc=>isWord c==(cls c==3||cls c==4||cls c==5)) (by decide +kernel) c
 rwa [beq_iff_eq] at h
theorem scan_letter (c:UInt8) (r:List UInt8) (h:cls c=3) :
  scan (c::r)=if 24<span isWord (c::r) then bad 2 else ⟨0,1,0,(c::r).take (span isWord (c::r)),span isWord (c::r)⟩:=by
 have h1:q17 c=true:=by rw [q3s,h];rfl
 have h2:isWord c=true:=by rw [qjg,h];rfl
 rw [q5c h2,scan,if_pos h1]
theorem qkd (c:UInt8) (r:List UInt8) (h:cls c=4) :
  scan (c::r)=if 13<span isDigit (c::r)||q1w ((c::r).drop (span isDigit (c::r)))==3||q1w ((c::r).drop (span isDigit (c::r)))==5 then bad 4
   else ⟨0,2,q2v ((c::r).take (span isDigit (c::r))),(c::r).take (span isDigit (c::r)),span isDigit (c::r)⟩:=by
 have h1:q17 c=false:=by rw [q3s,h];rfl
 have h2:isDigit c=true:=by rw [q3x,h];rfl
 rw [q5c h2,scan,if_neg (by rw [h1];decide),if_pos h2]
theorem qku (c:UInt8) (r:List UInt8) (h:cls c=6) :
  scan (c::r)=if (r.drop (span q0p r)).head? == some 34 then (if 400<span q0p r then bad 2 else ⟨0,3,0,r.take (span q0p r),span q0p r+2⟩) else bad 6:=by
 have h1:q17 c=false:=by rw [q3s,h];rfl
 have h2:isDigit c=false:=by rw [q3x,h];rfl
 have h3:(c==34)=true:=by rw [q74,h];rfl
 rw [scan,if_neg (by rw [h1];decide),if_neg (by rw [h2];decide),if_pos h3]
theorem scan_mark (c:UInt8) (r:List UInt8) (h:cls c=7):scan (c::r)=if r.head? == some 61 then ⟨0,4,0,[c,61],2⟩ else bad 3:=by
 have h1:q17 c=false:=by rw [q3s,h];rfl
 have h2:isDigit c=false:=by rw [q3x,h];rfl
 have h3:(c==34)=false:=by rw [q74,h];rfl
 have h4:(c==33)=true:=by rw [qet,h];rfl
 have h5:(c==60||c==62)=false:=by rw [qcj,h];rfl
 have h6:q93 c=false:=by rw [cls_sym,h];rfl
 rw [scan,if_neg (by rw [h1];decide),if_neg (by rw [h2];decide),if_neg (by rw [h3];decide)]
 simp only [h4,h5,h6,Bool.true_or,QL,Bool.or_self,Qi,if_false]
theorem scan_angle (c:UInt8) (r:List UInt8) (h:cls c=8):scan (c::r)=if r.head? == some 61 then ⟨0,4,0,[c,61],2⟩ else ⟨0,4,0,[c],1⟩:=by
 have h1:q17 c=false:=by rw [q3s,h];rfl
 have h2:isDigit c=false:=by rw [q3x,h];rfl
 have h3:(c==34)=false:=by rw [q74,h];rfl
 have h4:(c==33)=false:=by rw [qet,h];rfl
 have h5:(c==60||c==62)=true:=by rw [qcj,h];rfl
 rw [scan,if_neg (by rw [h1];decide),if_neg (by rw [h2];decide),if_neg (by rw [h3];decide)]
 simp only [h4,h5,QN,Bool.true_or,QL,if_true]
theorem scan_sym (c:UInt8) (r:List UInt8) (h:cls c=9):scan (c::r)=⟨0,4,0,[c],1⟩:=by
 have h1:q17 c=false:=by rw [q3s,h];rfl
 have h2:isDigit c=false:=by rw [q3x,h];rfl
 have h3:(c==34)=false:=by rw [q74,h];rfl
 have h4:(c==33)=false:=by rw [qet,h];rfl
 have h5:(c==60||c==62)=false:=by rw [qcj,h];rfl
 have h6:q93 c=true:=by rw [cls_sym,h];rfl
 rw [scan,if_neg (by rw [h1];decide),if_neg (by rw [h2];decide),if_neg (by rw [h3];decide)]
 simp only [h4,h5,h6,QN,QG,Qi,if_false,if_true]
theorem scan_other (c:UInt8) (r:List UInt8) (h3:cls c≠3) (h4:cls c≠4) (h6:cls c≠6) (h7:cls c≠7) (h8:cls c≠8) (h9:cls c≠9):scan (c::r)=bad 3:=by
 have e1:q17 c=false:=by rw [q3s];simpa using h3
 have e2:isDigit c=false:=by rw [q3x];simpa using h4
 have e3:(c==34)=false:=by rw [q74];simpa using h6
 have e4:(c==33)=false:=by rw [qet];simpa using h7
 have e5:(c==60||c==62)=false:=by rw [qcj];simpa using h8
 have e6:q93 c=false:=by rw [cls_sym];simpa using h9
 rw [scan,if_neg (by rw [e1];decide),if_neg (by rw [e2];decide),if_neg (by rw [e3];decide)]
 simp only [e4,e5,e6,QN,QG,Qi,if_false]
theorem ql2 (l:List UInt8) (h:∀ c∈l,isDigit c=true):∀ a,Lib.decFrom a l=some (l.foldl (λa c=>10*a+(c.toNat-48)) a):=by
 induction l with
 | nil=>intro a;rfl
 | cons c r ih =>
  intro a;have hc:isDigit c=true:=h c (by simp)
  have hd:Lib.digitVal c=some (c.toNat-48):=by
   unfold isDigit at hc;rw [Q9] at hc;have h1:48≤c:=of_decide_eq_true hc.1;have h2:c≤57:=of_decide_eq_true hc.2;have h1':48≤c.toNat:=h1;have h2':c.toNat≤57:=h2;unfold Lib.digitVal;rw [if_pos ⟨h1',h2'⟩]
  unfold Lib.decFrom;rw [hd];simp only [QC];rw [ih (λc hc=>h c (by simp [hc])),Nat.mul_comm]
theorem atoi_digits (l:List UInt8) (h:∀ c∈l,isDigit c=true) (hl:l≠[]):Lib.atoi l=some ((q2v l:Nat):Int):=by
 cases l with
 | nil=>exact absurd rfl hl
 | cons c r =>
  have hc:isDigit c=true:=h c (by simp)
  have h45:(c==45)=false:=by
   by_cases he:c=45
   ·subst he;exact absurd hc (by decide)
   ·simpa using he
  have h43:(c==43)=false:=by
   by_cases he:c=43
   ·subst he;exact absurd hc (by decide)
   ·simpa using he
  simp only [Lib.atoi];rw [if_neg (by rw [h45];decide),if_neg (by rw [h43];decide)]
  unfold Lib.decNat;rw [if_neg (by simp),ql2 _ h]
  rfl
theorem qh8 (p:UInt8→Bool) (l:List UInt8):∀ c∈l.take (span p l),p c=true:=by
 induction l with
 | nil=>intro c hc;simp at hc
 | cons d r ih =>
  intro c hc;cases hd:p d
  ·rw [q87 hd] at hc;simp at hc
  ·rw [q5c hd,Qa] at hc
   rcases QO.1 hc with rfl | hc
   ·exact hd
   ·exact ih c hc
theorem decVal_lt (l:List UInt8) (h:∀ c∈l,isDigit c=true):q2v l<10 ^ l.length:=by
 have H:∀ (l:List UInt8),(∀ c∈l,isDigit c=true)→∀ a,l.foldl (λa c=>10*a+(c.toNat-48)) a<(a+1)*10 ^ l.length:=by
  intro l
  induction l with
  | nil=>intro _ a;simp
  | cons c r ih =>
   intro h a;have hc:isDigit c=true:=h c (by simp)
   have h2':c.toNat≤57:=by
    unfold isDigit at hc;rw [Q9] at hc;exact of_decide_eq_true hc.2
   simp only [QC,Qd];have:=ih (λc hc=>h c (by simp [hc])) (10*a+(c.toNat-48))
   calc _<(10*a+(c.toNat-48)+1)*10 ^ r.length:=this
    _≤((a+1)*10)*10 ^ r.length:=Nat.mul_le_mul_right _ (by omega)
    _=(a+1)*10 ^ (r.length+1):=by rw [Nat.pow_succ,Nat.mul_assoc,Nat.mul_comm 10]
 have:=H l h 0
 simpa [q2v] using this
theorem indexAny_in (l:List UInt8):(Qc l [34,10]<0→(l.drop (span q0p l)).head? = none) ∧
  (0≤Qc l [34,10]→span q0p l=(Qc l [34,10]).toNat∧span q0p l<l.length∧(l[span q0p l]? = some 34∨l[span q0p l]? = some 10)):=by
 induction l with
 | nil=>exact ⟨λ_=>rfl,λh=>absurd h (by decide)⟩
 | cons c r ih =>
  have hge:=QZ [34,10] r;unfold Qc;cases hc:q0p c
  ·have hcon:([34,10]:List UInt8).contains c=true:=by
    have h1:∀ c:UInt8,([34,10]:List UInt8).contains c=!q0p c:=λc=>by
     have h:=q3u (λc=>([34,10]:List UInt8).contains c==!q0p c) (by decide +kernel) c
     rwa [beq_iff_eq] at h
    rw [h1,hc];rfl
   rw [if_pos hcon,q87 hc];refine ⟨λh=>absurd h (by decide),λ_=>⟨rfl,by simp,?_⟩⟩
   have:c=34∨c=10:=by simpa using hcon
   rcases this with rfl | rfl
   ·exact .inl rfl
   ·exact .inr rfl
  ·have hcon:([34,10]:List UInt8).contains c=false:=by
    have h1:∀ c:UInt8,([34,10]:List UInt8).contains c=!q0p c:=λc=>by
     have h:=q3u (λc=>([34,10]:List UInt8).contains c==!q0p c) (by decide +kernel) c
     rwa [beq_iff_eq] at h
    rw [h1,hc];rfl
   rw [if_neg (by rw [hcon];decide),q5c hc]
   by_cases hr:(Qc r [34,10]==-1)=true
   ·rw [if_pos hr]
    have hr':Qc r [34,10]=-1:=by simpa using hr
    exact ⟨λ_=>ih.1 (by omega),λh=>absurd h (by decide)⟩
   ·rw [if_neg hr]
    have hr':Qc r [34,10]≠-1:=by simpa using hr
    refine ⟨λh=>by omega,λ_=>?_⟩
    obtain ⟨h1,h2,h3⟩:=ih.2 (by omega)
    refine ⟨by omega,by simpa using h2,by simpa using h3⟩
def Sc.out (r:Sc) (off:Nat):Value:=.agg #[.int .i64 r.kind,.int .i64 (if r.err=0 then (off:Int) else 0),.int .i64 r.n,.string (bs r.text)]
def Sc.fin (r:Sc) (off:Nat):Int:=if r.err=0 then (off+r.width:Nat) else 0
end Lx
theorem among_word:among [3,4,5]=Lx.isWord:=by
 funext c
 rw [Lx.qjg];have h:∀ n:Nat,([3,4,5]:List Int).contains (n:Int)=(n==3||n==4||n==5):=by
  intro n;rw [Qj];simp;omega
 exact h _
theorem among_digit:among [4]=Lx.isDigit:=by
 funext c
 rw [Lx.q3x];have h:∀ n:Nat,([4]:List Int).contains (n:Int)=(n==4):=by
  intro n;rw [Qj];simp;omega
 exact h _
theorem qld (w:World) (bk:Nat) (hbk:bk=w.heap.size) (x y z:Int) (t:TypeId):∀ j,j<[x,y,z].length→(w.alloc (.cells #[.int .i64 x,.int .i64 y,.int .i64 z] t)).cell? ⟨bk,0+j,none⟩=some (.int .i64 ([x,y,z].getD j 0)):=by
 intro j hj;subst hbk
 match j,hj with
 | 0,_=>simp [Qs]
 | 1,_=>simp [Qs]
 | 2,_=>simp [Qs]
set_option maxRecDepth 100000 in
set_option maxHeartbeats 1000000 in
theorem next_letter (b:Nat) (s:ByteArray) (i:Nat) (w:World) (hs:s.size≤20000) (hi:i<s.size) (hb:b<w.heap.size) (h:Scan w b s) (hc:Lx.cls s[i]=3) :
  Calls Tryz.prog 60 #[.pointer (some ⟨b,0,none⟩),.int .i64 i] w λe w' =>
   e=.returned (.tuple #[(Lx.scan (s.data.toList.drop i)).out i,.int .i64 ((Lx.scan (s.data.toList.drop i)).fin i),.int .i64 (Lx.scan (s.data.toList.drop i)).err])∧Below w.heap.size w w':=by
 have hsc:=Lx.scan_letter s[i] (s.data.toList.drop (i+1)) hc;have hd:=q10 s i hi;rw [← hd] at hsc;have HSC:=Q0 hsc;clear hsc;have hle:=qhf Lx.isWord (s.data.toList.drop i);rw [Q7,← q0c] at hle;have hc0:Lx.q1w (s.data.toList.drop i)=3:=by rw [hd];exact hc
 have HC:=Q0 hc0;clear hc hc0 hd;have h0:=h.text
 go_enter Tryz.func60,Tryz.ntmps60
 go_wp2_with fail
 refine (q6b b s i _ (by omega) (by omega) (by exact h.alloc hb _)).mono ?_
 rintro e w' ⟨rfl,m1,rfl⟩;rw [Q8,HC.out]
 go_wp2_with fail
 refine (qcn b s i _ 3 3 [3,4,5] _ (by omega) (by omega) (by exact ((h.alloc hb _).drewN m1).alloc (by simp;omega) _) rfl (by omega) (by omega) (by exact qld _ _ (by simp) 3 4 5 _)).mono ?_
 rintro e w' ⟨rfl,m2,rfl⟩;rw [among_word];generalize Lx.span Lx.isWord (s.data.toList.drop i)=m at *
 by_cases hm:24<m
 ·go_wp2
  refine bodyPost_ret (v:=.tuple #[.agg #[.int .i64 0,.int .i64 0,.int .i64 0,.string { data:=#[] }],.int .i64 0,.int .i64 2]) (by simp [results,Tryz.results60,go_sem]) rfl ⟨?_,?_⟩
  ·rw [HSC.out,if_pos hm];rfl
  ·exact q13 (q02 (q02 (q03 w) _) _) _
 ·have hx:=q1i s i (i+m)
  rw [Qp] at hx
  go_wp2
  refine bodyPost_ret (v:=.tuple #[.agg #[.int .i64 1,.int .i64 i,.int .i64 0,.string (bs ((s.data.toList.drop i).take m))],.int .i64 (i+m:Nat),.int .i64 0]) ?_ rfl ⟨?_,?_⟩
  ·simp [results,Tryz.results60,go_sem]
  ·rw [HSC.out,if_neg hm];rfl
  ·exact q13 (q02 (q02 (q03 w) _) _) _
theorem atoi_any (l:List UInt8) (w:World) (hl:l.length≤18) {n:Int} (h:Lib.atoi l=some n) :
  Calls Tryz.prog 89 #[.string (bs l)] w λe w'=>e=.returned (.tuple #[.int .i64 n,.nilIface])∧Below w.heap.size w w':=by
 refine (Tryz.strconv_Atoi (bs l) n (by rw [q3j];exact hl) (by rw [q2h];exact h) w).mono ?_
 rintro e w' ⟨rfl,t,rfl⟩;exact ⟨rfl,Joins.below_bytesWorld _ w _ t (Q3 _)⟩
set_option maxRecDepth 100000 in
set_option maxHeartbeats 2000000 in
theorem next_digit (b:Nat) (s:ByteArray) (i:Nat) (w:World) (hs:s.size≤20000) (hi:i<s.size) (hb:b<w.heap.size) (h:Scan w b s) (hc:Lx.cls s[i]=4) :
  Calls Tryz.prog 60 #[.pointer (some ⟨b,0,none⟩),.int .i64 i] w λe w' =>
   e=.returned (.tuple #[(Lx.scan (s.data.toList.drop i)).out i,.int .i64 ((Lx.scan (s.data.toList.drop i)).fin i),.int .i64 (Lx.scan (s.data.toList.drop i)).err])∧Below w.heap.size w w':=by
 have hsc:=Lx.qkd s[i] (s.data.toList.drop (i+1)) hc;have hd:=q10 s i hi;have hp:Lx.isDigit s[i]=true:=by rw [Lx.q3x,hc];rfl
 have hpos:1≤Lx.span Lx.isDigit (s.data.toList.drop i):=by rw [hd,q5c hp];omega
 rw [← hd] at hsc;rw [Qg] at hsc;have HSC:=Q0 hsc;clear hsc;have hle:=qhf Lx.isDigit (s.data.toList.drop i);rw [Q7,← q0c] at hle;have hc0:Lx.q1w (s.data.toList.drop i)=4:=by rw [hd];exact hc
 have HC:=Q0 hc0;have hdig:=Lx.qh8 Lx.isDigit (s.data.toList.drop i);have HDIG:=Q0 hdig;clear hc hc0 hd hdig hp;have h0:=h.text
 go_enter Tryz.func60,Tryz.ntmps60
 go_wp2_with fail
 refine (q6b b s i _ (by omega) (by omega) (by exact h.alloc hb _)).mono ?_
 rintro e w' ⟨rfl,m1,rfl⟩;rw [Q8,HC.out]
 go_wp2_with fail
 refine (qcn b s i _ 1 1 [4] _ (by omega) (by omega) (by exact ((h.alloc hb _).alloc (by simp;omega) _).drewN m1) rfl (by omega) (by omega) (by exact qg1 _ _ (by simp) 4 _)).mono ?_
 rintro e w' ⟨rfl,m2,rfl⟩;rw [among_digit];generalize Lx.span Lx.isDigit (s.data.toList.drop i)=m at *
 go_wp2_with fail
 refine (q6b b s (i+m) _ (by omega) (by omega) (by exact ((h.alloc hb _).alloc (by simp;omega) _).drewN _)).mono ?_
 rintro e w' ⟨rfl,m3,rfl⟩;rw [show ((i:Int)+(m:Int)).toNat=i+m from by omega]
 generalize Lx.q1w (s.data.toList.drop (i+m))=c2 at *
 by_cases hm:13<m∨c2=3∨c2=5
 ·have hbad:(13<(m:Int))∨((c2:Int)==3)=true∨((c2:Int)==5)=true:=by
   rcases hm with hm | rfl | rfl
   ·left;omega
   ·right;left;rfl
   ·right;right;rfl
  have hsb:Lx.scan (s.data.toList.drop i)=Lx.bad 4:=by
   rw [HSC.out,if_pos];rcases hm with hm | rfl | rfl
   ·simp [hm]
   ·simp
   ·simp
  have HSB:=Q0 hsb;clear hsb hm HSC;have fin:∀ X:World,Below w.heap.size w X→(Ending.returned (.tuple #[.agg #[.int .i64 0,.int .i64 0,.int .i64 0,.string { data:=#[] }],.int .i64 0,.int .i64 4])=.returned (.tuple #[(Lx.scan (s.data.toList.drop i)).out i,.int .i64 ((Lx.scan (s.data.toList.drop i)).fin i),.int .i64 (Lx.scan (s.data.toList.drop i)).err]))∧Below w.heap.size w X:=λX hX=>⟨by rw [HSB.out];rfl,hX⟩
  have FIN:=Q0 fin;clear fin;by_cases h13:13<m
  ·clear hbad
   go_wp2
   refine bodyPost_ret (v:=.tuple #[.agg #[.int .i64 0,.int .i64 0,.int .i64 0,.string { data:=#[] }],.int .i64 0,.int .i64 4]) (by simp [results,Tryz.results60,go_sem]) rfl (FIN.out _ ?_)
   exact q13 (q02 (q02 (q03 w) _) _) _
  ·cases h3:((c2:Int)==3)
   ·have h5:((c2:Int)==5)=true:=by
     rcases hbad with hb' | hb' | hb'
     ·omega
     ·rw [h3] at hb';cases hb'
     ·exact hb'
    clear hbad
    go_wp2
    refine bodyPost_ret (v:=.tuple #[.agg #[.int .i64 0,.int .i64 0,.int .i64 0,.string { data:=#[] }],.int .i64 0,.int .i64 4]) (by simp [results,Tryz.results60,go_sem]) rfl (FIN.out _ ?_)
    exact q13 (q02 (q02 (q03 w) _) _) _
   ·clear hbad
    go_wp2
    refine bodyPost_ret (v:=.tuple #[.agg #[.int .i64 0,.int .i64 0,.int .i64 0,.string { data:=#[] }],.int .i64 0,.int .i64 4]) (by simp [results,Tryz.results60,go_sem]) rfl (FIN.out _ ?_)
    exact q13 (q02 (q02 (q03 w) _) _) _
 ·have h13:m≤13:=by omega
  have h3:((c2:Int)==3)=false:=by rw [beq_eq_false_iff_ne];omega
  have h5:((c2:Int)==5)=false:=by rw [beq_eq_false_iff_ne];omega
  have hn13:(13<m)=False:=by simp;omega
  have hsc:=HSC.out;have h3':(c2==3)=false:=by rw [beq_eq_false_iff_ne];omega
  have h5':(c2==5)=false:=by rw [beq_eq_false_iff_ne];omega
  rw [if_neg (by rw [h3',h5'];simp;omega)] at hsc
  clear HSC hm h3' h5' hn13;have HSC:=Q0 hsc;clear hsc;have hx:=q1i s i (i+m);rw [Qp] at hx;have hlen:((s.data.toList.drop i).take m).length=m:=by
   rw [QY,Q7,← q0c];omega
  have hat:=Lx.atoi_digits ((s.data.toList.drop i).take m) HDIG.out (by intro h;rw [h] at hlen;simp at hlen;omega)
  have hlt:=Lx.decVal_lt _ HDIG.out;rw [hlen] at hlt;have HAT:=Q0 hat;clear hat
  go_wp2_with fail
  refine (atoi_any ((s.data.toList.drop i).take m) _ (by rw [hlen];omega) HAT.out).mono ?_
  rintro e w3 ⟨rfl,hb3⟩;have hS3:Scan w3 b s:=(((h.alloc hb _).alloc (by simp;omega) _).drewN _).below hb3 (by simp;omega)
  have hbelow:Below w.heap.size w w3:=q1y (q13 (q02 (q02 (q03 w) _) _) _) hb3;have hblk:Blk w3 w.heap.size 89 #[.int .i64 0,.int .i64 0,.int .i64 0,.string { data:=#[] }] :=
   (((Blk.new w _ _).alloc _).drewN _).bel hb3
  have t0:=hS3.text;have k0:=hblk.cell 0;have k1:=hblk.cell 1;have k2:=hblk.cell 2;have k3:=hblk.cell 3;have f0:=hblk.frozen 0;have f1:=hblk.frozen 1;have f2:=hblk.frozen 2;have f3:=hblk.frozen 3;have HB:=Q0 hbelow;have HBLK:=Q0 hblk;clear hb3 hbelow hblk hS3;generalize Lx.q2v ((s.data.toList.drop i).take m)=v at *
  go_wp2
  refine bodyPost_ret (q1t rfl _ _ w.heap.size 89 _ _ rfl ((((HBLK.out.set_ 0 _).set_ 1 _).set_ 2 _).set_ 3 _) Tryz.underlying89 rfl (by kernel_rfl)) rfl ⟨?_,?_⟩
  ·rw [HSC.out];rfl
  ·exact q1a (q1a (q1a (q1a HB.out (Q3 _) _) (Q3 _) _) (Q3 _) _) (Q3 _) _
end Go.Proofs.YtlmbfijhkcmncaaGreatDoor
namespace Go.Proofs.YtlmbfijhkcmncaaGreatDoor
open Go.RowKit
attribute [local go_sem] q12 q0q q0s
theorem tok_block (w:World) (m:Nat) (w3:World) (hb3:Below (((w.alloc (.cells #[.int .i64 0,.int .i64 0,.int .i64 0,.string { data:=#[] }] 89)).drewN m).heap.size) ((w.alloc (.cells #[.int .i64 0,.int .i64 0,.int .i64 0,.string { data:=#[] }] 89)).drewN m) w3) :
  Below w.heap.size w w3∧Blk w3 w.heap.size 89 #[.int .i64 0,.int .i64 0,.int .i64 0,.string { data:=#[] }] :=
 ⟨q1y (q13 (q02 (q03 w) _) _) hb3,((Blk.new w _ _).drewN _).bel hb3⟩
set_option maxRecDepth 100000 in
set_option maxHeartbeats 2000000 in
theorem next_quote (b:Nat) (s:ByteArray) (i:Nat) (w:World) (hs:s.size≤20000) (hi:i<s.size) (hb:b<w.heap.size) (h:Scan w b s) (hc:Lx.cls s[i]=6) :
  Calls Tryz.prog 60 #[.pointer (some ⟨b,0,none⟩),.int .i64 i] w λe w' =>
   e=.returned (.tuple #[(Lx.scan (s.data.toList.drop i)).out i,.int .i64 ((Lx.scan (s.data.toList.drop i)).fin i),.int .i64 (Lx.scan (s.data.toList.drop i)).err])∧Below w.heap.size w w':=by
 have hsc:=Lx.qku s[i] (s.data.toList.drop (i+1)) hc;have hd:=q10 s i hi;rw [← hd] at hsc;have hc0:Lx.q1w (s.data.toList.drop i)=6:=by rw [hd];exact hc
 have HC:=Q0 hc0;clear hc hc0 hd;have h0:=h.text;obtain ⟨R,hR⟩:∃ R,s.extract (i+1) s.size=R:=⟨_,rfl⟩;have hRl:R.data.toList=s.data.toList.drop (i+1):=by
  rw [← hR,Qv];exact Qk (by rw [Q7,← q0c];exact Q3 _)
 have hRs:R.size=s.size-(i+1):=by rw [q0c,hRl,Q7,← q0c]
 have hRs':R.size≤20000:=by omega
 rw [← hRl] at hsc;have HSC:=Q0 hsc;clear hsc;have HRS:=Q0 hRs;clear hRs;obtain ⟨hin1,hin2⟩:=Lx.indexAny_in R.data.toList;have HIN1:=Q0 hin1;have HIN2:=Q0 hin2;clear hin1 hin2 hRl;have hge:=QZ [34,10] R.data.toList
 go_enter Tryz.func60,Tryz.ntmps60
 go_wp2_with fail
 refine (q6b b s i _ (by omega) (by omega) (by exact h.alloc hb _)).mono ?_
 rintro e w' ⟨rfl,m1,rfl⟩;rw [Q8,HC.out]
 go_wp2_with fail
 refine (qkz R _ (by omega)).mono ?_
 rintro e w3 ⟨rfl,hb3⟩;have hS3:Scan w3 b s:=((h.alloc hb _).drewN _).below hb3 (by simp;omega)
 obtain ⟨hbelow,hblk⟩:=tok_block w m1 w3 hb3;have t0:=hS3.text;have k0:=hblk.cell 0;have k1:=hblk.cell 1;have k2:=hblk.cell 2;have k3:=hblk.cell 3;have f0:=hblk.frozen 0;have f1:=hblk.frozen 1;have f2:=hblk.frozen 2;have f3:=hblk.frozen 3;have HB:=Q0 hbelow;have HBLK:=Q0 hblk;clear hb3 hbelow hblk hS3;by_cases hneg:Qc R.data.toList [34,10]<0
 ·have hh:=HIN1.out hneg
  have hsb:Lx.scan (s.data.toList.drop i)=Lx.bad 6:=by rw [HSC.out,hh];rfl
  have HSB:=Q0 hsb;clear hsb hh HSC HIN1 HIN2;generalize Qc R.data.toList [34,10]=o at *
  go_wp2
  refine bodyPost_ret (q1t rfl _ _ w.heap.size 89 _ _ rfl ((((HBLK.out.set_ 0 _).set_ 1 _).set_ 2 _).set_ 3 _) Tryz.underlying89 rfl (by kernel_rfl)) rfl ⟨?_,?_⟩
  ·rw [HSB.out];rfl
  ·exact q1a (q1a (q1a (q1a HB.out (Q3 _) _) (Q3 _) _) (Q3 _) _) (Q3 _) _
 ·obtain ⟨p1,p2,p3⟩:=HIN2.out (by omega)
  rw [← q0c] at p2;have HSC':=HSC.out;generalize Qc R.data.toList [34,10]=o at *
  obtain ⟨q,rfl⟩:=QA (show 0≤o by omega)
  have p1':Lx.span Lx.q0p R.data.toList=q:=by simpa using p1
  rw [p1'] at p2 p3 HSC';have hget:=q7y R q p2;rw [hget] at p3;have hhd:(R.data.toList.drop q).head? = some R[q]:=by rw [List.head?_drop,hget]
  rw [hhd] at HSC';have HX:=q1i R 0 q;rw [Nat.sub_zero,Qe] at HX;clear p1 p1' HIN1 HIN2 hget hhd HSC;by_cases h10:R[q]=10
  ·have hsb:Lx.scan (s.data.toList.drop i)=Lx.bad 6:=by rw [HSC',h10];rfl
   have HSB:=Q0 hsb;have h10':((R[q].toNat:Int)==10)=true:=by rw [h10];rfl
   clear hsb HSC' h10 p3
   go_wp2
   refine bodyPost_ret (q1t rfl _ _ w.heap.size 89 _ _ rfl ((((HBLK.out.set_ 0 _).set_ 1 _).set_ 2 _).set_ 3 _) Tryz.underlying89 rfl (by kernel_rfl)) rfl ⟨?_,?_⟩
   ·rw [HSB.out];rfl
   ·exact q1a (q1a (q1a (q1a HB.out (Q3 _) _) (Q3 _) _) (Q3 _) _) (Q3 _) _
  ·have h34:R[q]=34:=by
    rcases p3 with h | h
    ·injection h
    ·injection h with h;exact absurd h h10
   have h10':((R[q].toNat:Int)==10)=false:=by rw [h34];rfl
   rw [h34] at HSC';rw [if_pos (beq_self_eq_true _)] at HSC';have HSC:=Q0 HSC';have HX':=Q0 HX;clear HSC' h10 p3 h34;by_cases h4:400<q
   ·have hsb:Lx.scan (s.data.toList.drop i)=Lx.bad 2:=by rw [HSC.out,if_pos h4]
    have HSB:=Q0 hsb;clear hsb HSC
    go_wp2
    refine bodyPost_ret (q1t rfl _ _ w.heap.size 89 _ _ rfl ((((HBLK.out.set_ 0 _).set_ 1 _).set_ 2 _).set_ 3 _) Tryz.underlying89 rfl (by kernel_rfl)) rfl ⟨?_,?_⟩
    ·rw [HSB.out];rfl
    ·exact q1a (q1a (q1a (q1a HB.out (Q3 _) _) (Q3 _) _) (Q3 _) _) (Q3 _) _
   ·have hsb:Lx.scan (s.data.toList.drop i)=⟨0,3,0,R.data.toList.take q,q+2⟩:=by rw [HSC.out,if_neg h4]
    have HSB:=Q0 hsb;clear hsb HSC
    go_wp2
    refine bodyPost_ret (q1t rfl _ _ w.heap.size 89 _ _ rfl ((((HBLK.out.set_ 0 _).set_ 1 _).set_ 2 _).set_ 3 _) Tryz.underlying89 rfl (by kernel_rfl)) rfl ⟨?_,?_⟩
    ·rw [HSB.out]
     simp only [Lx.Sc.out,Lx.Sc.fin,if_true];rw [← Nat.add_assoc];rfl
    ·exact q1a (q1a (q1a (q1a HB.out (Q3 _) _) (Q3 _) _) (Q3 _) _) (Q3 _) _
set_option maxRecDepth 100000 in
set_option maxHeartbeats 2000000 in
theorem next_mark (b:Nat) (s:ByteArray) (i:Nat) (w:World) (hs:s.size≤20000) (hi:i<s.size) (hb:b<w.heap.size) (h:Scan w b s) (hc:Lx.cls s[i]=7) :
  Calls Tryz.prog 60 #[.pointer (some ⟨b,0,none⟩),.int .i64 i] w λe w' =>
   e=.returned (.tuple #[(Lx.scan (s.data.toList.drop i)).out i,.int .i64 ((Lx.scan (s.data.toList.drop i)).fin i),.int .i64 (Lx.scan (s.data.toList.drop i)).err])∧Below w.heap.size w w':=by
 have hsc:=Lx.scan_mark s[i] (s.data.toList.drop (i+1)) hc;have hd:=q10 s i hi;rw [← hd] at hsc;have hc0:Lx.q1w (s.data.toList.drop i)=7:=by rw [hd];exact hc
 have HC:=Q0 hc0;have h0:=h.text;obtain ⟨R,hR⟩:∃ R,s.extract (i+1) s.size=R:=⟨_,rfl⟩;have hRl:R.data.toList=s.data.toList.drop (i+1):=by
  rw [← hR,Qv];exact Qk (by rw [Q7,← q0c];exact Q3 _)
 have hpre:Qt R.data.toList [61]=((s.data.toList.drop (i+1)).head? == some 61):=by
  rw [hRl];cases s.data.toList.drop (i+1) with
  | nil=>rfl
  | cons c r =>
   simp only [Qt,W9,Wd,QP];rw [Qj];simp;exact eq_comm
 have HPRE:=Q0 hpre;clear hpre;rcases Qw ((s.data.toList.drop (i+1)).head? == some 61) with hq | hq
 ·have hlt:i+1<s.size:=by
   rcases QQ (i+1) s.size with h1 | h1
   ·exact h1
   ·rw [Qb (by rw [← q0c];exact h1)] at hq;cases hq
  have hxt:s.extract i (i+2)=bs [s[i],61]:=by
   rw [q1i,show i+2-i=2 from by omega,hd]
   have h2:=q10 s (i+1) hlt;rw [h2] at hq ⊢;have h3:s[i+1]=61:=by simpa using hq
   rw [h3];rfl
  rw [if_pos hq] at hsc;have HSC:=Q0 hsc;have HXT:=Q0 hxt;clear hsc hd hc hRl hc0
  go_enter Tryz.func60,Tryz.ntmps60
  go_wp2_with fail
  refine (q6b b s i _ (by omega) (by omega) (by exact h.alloc hb _)).mono ?_
  rintro e w' ⟨rfl,m1,rfl⟩;rw [Q8,HC.out]
  go_wp2_with fail
  refine (Tryz.strings_HasPrefix R _ _).mono ?_;rintro e w' ⟨rfl,rfl⟩;rw [show (({ data:=#[61] }:ByteArray).data.toList)=[61] from rfl,HPRE.out];rw [hq];clear hq
  go_wp2
  refine bodyPost_ret (q1t rfl _ _ w.heap.size 89 _ _ rfl (by exact (Blk.new w _ _).drewN _) Tryz.underlying89 rfl (by kernel_rfl)) rfl ⟨?_,?_⟩
  ·rw [HSC.out,HXT.out];rfl
  ·exact q13 (q02 (q03 w) _) _
 ·rw [if_neg (by rw [hq];decide)] at hsc
  have HSC:=Q0 hsc;clear hsc hd hc hRl hc0
  go_enter Tryz.func60,Tryz.ntmps60
  go_wp2_with fail
  refine (q6b b s i _ (by omega) (by omega) (by exact h.alloc hb _)).mono ?_
  rintro e w' ⟨rfl,m1,rfl⟩;rw [Q8,HC.out]
  go_wp2_with fail
  refine (Tryz.strings_HasPrefix R _ _).mono ?_;rintro e w' ⟨rfl,rfl⟩;rw [show (({ data:=#[61] }:ByteArray).data.toList)=[61] from rfl,HPRE.out];rw [hq];clear hq
  go_wp2
  refine bodyPost_ret (q1t rfl _ _ w.heap.size 89 _ _ rfl (by exact (Blk.new w _ _).drewN _) Tryz.underlying89 rfl (by kernel_rfl)) rfl ⟨?_,?_⟩
  ·rw [HSC.out];rfl
  ·exact q13 (q02 (q03 w) _) _
set_option maxRecDepth 100000 in
set_option maxHeartbeats 2000000 in
theorem next_angle (b:Nat) (s:ByteArray) (i:Nat) (w:World) (hs:s.size≤20000) (hi:i<s.size) (hb:b<w.heap.size) (h:Scan w b s) (hc:Lx.cls s[i]=8) :
  Calls Tryz.prog 60 #[.pointer (some ⟨b,0,none⟩),.int .i64 i] w λe w' =>
   e=.returned (.tuple #[(Lx.scan (s.data.toList.drop i)).out i,.int .i64 ((Lx.scan (s.data.toList.drop i)).fin i),.int .i64 (Lx.scan (s.data.toList.drop i)).err])∧Below w.heap.size w w':=by
 have hsc:=Lx.scan_angle s[i] (s.data.toList.drop (i+1)) hc;have hd:=q10 s i hi;rw [← hd] at hsc;have hc0:Lx.q1w (s.data.toList.drop i)=8:=by rw [hd];exact hc
 have HC:=Q0 hc0;have h0:=h.text;obtain ⟨R,hR⟩:∃ R,s.extract (i+1) s.size=R:=⟨_,rfl⟩;have hRl:R.data.toList=s.data.toList.drop (i+1):=by
  rw [← hR,Qv];exact Qk (by rw [Q7,← q0c];exact Q3 _)
 have hpre:Qt R.data.toList [61]=((s.data.toList.drop (i+1)).head? == some 61):=by
  rw [hRl];cases s.data.toList.drop (i+1) with
  | nil=>rfl
  | cons c r =>
   simp only [Qt,W9,Wd,QP];rw [Qj];simp;exact eq_comm
 have HPRE:=Q0 hpre;clear hpre;rcases Qw ((s.data.toList.drop (i+1)).head? == some 61) with hq | hq
 ·have hlt:i+1<s.size:=by
   rcases QQ (i+1) s.size with h1 | h1
   ·exact h1
   ·rw [Qb (by rw [← q0c];exact h1)] at hq;cases hq
  have hxt:s.extract i (i+2)=bs [s[i],61]:=by
   rw [q1i,show i+2-i=2 from by omega,hd]
   have h2:=q10 s (i+1) hlt;rw [h2] at hq ⊢;have h3:s[i+1]=61:=by simpa using hq
   rw [h3];rfl
  rw [if_pos hq] at hsc;have HSC:=Q0 hsc;have HXT:=Q0 hxt;clear hsc hd hc hRl hc0
  go_enter Tryz.func60,Tryz.ntmps60
  go_wp2_with fail
  refine (q6b b s i _ (by omega) (by omega) (by exact h.alloc hb _)).mono ?_
  rintro e w' ⟨rfl,m1,rfl⟩;rw [Q8,HC.out]
  go_wp2_with fail
  refine (Tryz.strings_HasPrefix R _ _).mono ?_;rintro e w' ⟨rfl,rfl⟩;rw [show (({ data:=#[61] }:ByteArray).data.toList)=[61] from rfl,HPRE.out];rw [hq];clear hq
  go_wp2
  refine bodyPost_ret (q1t rfl _ _ w.heap.size 89 _ _ rfl (by exact (Blk.new w _ _).drewN _) Tryz.underlying89 rfl (by kernel_rfl)) rfl ⟨?_,?_⟩
  ·rw [HSC.out,HXT.out];rfl
  ·exact q13 (q02 (q03 w) _) _
 ·rw [if_neg (by rw [hq];decide)] at hsc
  have hxt:s.extract i (i+1)=bs [s[i]]:=by
   rw [q1i,show i+1-i=1 from by omega,hd]
   rfl
  have HSC:=Q0 hsc;have HXT:=Q0 hxt;clear hsc hd hc hRl hc0 hxt
  go_enter Tryz.func60,Tryz.ntmps60
  go_wp2_with fail
  refine (q6b b s i _ (by omega) (by omega) (by exact h.alloc hb _)).mono ?_
  rintro e w' ⟨rfl,m1,rfl⟩;rw [Q8,HC.out]
  go_wp2_with fail
  refine (Tryz.strings_HasPrefix R _ _).mono ?_;rintro e w' ⟨rfl,rfl⟩;rw [show (({ data:=#[61] }:ByteArray).data.toList)=[61] from rfl,HPRE.out];rw [hq];clear hq
  go_wp2
  refine bodyPost_ret (q1t rfl _ _ w.heap.size 89 _ _ rfl (by exact (Blk.new w _ _).drewN _) Tryz.underlying89 rfl (by kernel_rfl)) rfl ⟨?_,?_⟩
  ·rw [HSC.out,HXT.out];rfl
  ·exact q13 (q02 (q03 w) _) _
set_option maxRecDepth 100000 in
set_option maxHeartbeats 2000000 in
theorem next_sym (b:Nat) (s:ByteArray) (i:Nat) (w:World) (hs:s.size≤20000) (hi:i<s.size) (hb:b<w.heap.size) (h:Scan w b s) (hc:Lx.cls s[i]=9) :
  Calls Tryz.prog 60 #[.pointer (some ⟨b,0,none⟩),.int .i64 i] w λe w' =>
   e=.returned (.tuple #[(Lx.scan (s.data.toList.drop i)).out i,.int .i64 ((Lx.scan (s.data.toList.drop i)).fin i),.int .i64 (Lx.scan (s.data.toList.drop i)).err])∧Below w.heap.size w w':=by
 have hsc:=Lx.scan_sym s[i] (s.data.toList.drop (i+1)) hc;have hd:=q10 s i hi;rw [← hd] at hsc;have hc0:Lx.q1w (s.data.toList.drop i)=9:=by rw [hd];exact hc
 have HC:=Q0 hc0;have h0:=h.text;have hxt:s.extract i (i+1)=bs [s[i]]:=by
  rw [q1i,show i+1-i=1 from by omega,hd]
  rfl
 have HSC:=Q0 hsc;have HXT:=Q0 hxt;clear hsc hd hc hc0 hxt
 go_enter Tryz.func60,Tryz.ntmps60
 go_wp2_with fail
 refine (q6b b s i _ (by omega) (by omega) (by exact h.alloc hb _)).mono ?_
 rintro e w' ⟨rfl,m1,rfl⟩;rw [Q8,HC.out]
 go_wp2
 refine bodyPost_ret (q1t rfl _ _ w.heap.size 89 _ _ rfl (by exact (Blk.new w _ _).drewN _) Tryz.underlying89 rfl (by kernel_rfl)) rfl ⟨?_,?_⟩
 ·rw [HSC.out,HXT.out];rfl
 ·exact q13 (q02 (q03 w) _) _
set_option maxRecDepth 100000 in
set_option maxHeartbeats 2000000 in
theorem next_other (b:Nat) (s:ByteArray) (i:Nat) (w:World) (hs:s.size≤20000) (hi:i<s.size) (hb:b<w.heap.size) (h:Scan w b s) (h3:Lx.cls s[i]≠3) (h4:Lx.cls s[i]≠4) (h6:Lx.cls s[i]≠6) (h7:Lx.cls s[i]≠7) (h8:Lx.cls s[i]≠8) (h9:Lx.cls s[i]≠9) :
  Calls Tryz.prog 60 #[.pointer (some ⟨b,0,none⟩),.int .i64 i] w λe w' =>
   e=.returned (.tuple #[(Lx.scan (s.data.toList.drop i)).out i,.int .i64 ((Lx.scan (s.data.toList.drop i)).fin i),.int .i64 (Lx.scan (s.data.toList.drop i)).err])∧Below w.heap.size w w':=by
 have hsc:=Lx.scan_other s[i] (s.data.toList.drop (i+1)) h3 h4 h6 h7 h8 h9;have hd:=q10 s i hi;rw [← hd] at hsc;have hc0:Lx.q1w (s.data.toList.drop i)=Lx.cls s[i]:=by rw [hd];rfl
 have HC:=Q0 hc0;have e3:((Lx.cls s[i]:Int)==3)=false:=by rw [beq_eq_false_iff_ne];omega
 have e4:((Lx.cls s[i]:Int)==4)=false:=by rw [beq_eq_false_iff_ne];omega
 have e6:((Lx.cls s[i]:Int)==6)=false:=by rw [beq_eq_false_iff_ne];omega
 have e7:((Lx.cls s[i]:Int)==7)=false:=by rw [beq_eq_false_iff_ne];omega
 have e8:((Lx.cls s[i]:Int)==8)=false:=by rw [beq_eq_false_iff_ne];omega
 have e9:((Lx.cls s[i]:Int)==9)=false:=by rw [beq_eq_false_iff_ne];omega
 have HSC:=Q0 hsc;clear hsc hd hc0
 go_enter Tryz.func60,Tryz.ntmps60
 go_wp2_with fail
 refine (q6b b s i _ (by omega) (by omega) (by exact h.alloc hb _)).mono ?_
 rintro e w' ⟨rfl,m1,rfl⟩;rw [Q8,HC.out];generalize Lx.cls s[i]=cc at *
 go_wp2
 refine bodyPost_ret (q1t rfl _ _ w.heap.size 89 _ _ rfl (by exact (Blk.new w _ _).drewN _) Tryz.underlying89 rfl (by kernel_rfl)) rfl ⟨?_,?_⟩
 ·rw [HSC.out];rfl
 ·exact q13 (q02 (q03 w) _) _
theorem next_any (b:Nat) (s:ByteArray) (i:Int) (w:World) (hs:s.size≤20000) (hi0:0≤i) (hi:i<s.size) (hb:b<w.heap.size) (h:Scan w b s) :
  Calls Tryz.prog 60 #[.pointer (some ⟨b,0,none⟩),.int .i64 i] w λe w' =>
   e=.returned (.tuple #[(Lx.scan (s.data.toList.drop i.toNat)).out i.toNat,.int .i64 ((Lx.scan (s.data.toList.drop i.toNat)).fin i.toNat),.int .i64 (Lx.scan (s.data.toList.drop i.toNat)).err])∧Below w.heap.size w w':=by
 obtain ⟨i,rfl⟩:=QA hi0;rw [Q8];have hi':i<s.size:=by omega
 by_cases h3:Lx.cls s[i]=3
 ·exact next_letter b s i w hs hi' hb h h3
 by_cases h4:Lx.cls s[i]=4
 ·exact next_digit b s i w hs hi' hb h h4
 by_cases h6:Lx.cls s[i]=6
 ·exact next_quote b s i w hs hi' hb h h6
 by_cases h7:Lx.cls s[i]=7
 ·exact next_mark b s i w hs hi' hb h h7
 by_cases h8:Lx.cls s[i]=8
 ·exact next_angle b s i w hs hi' hb h h8
 by_cases h9:Lx.cls s[i]=9
 ·exact next_sym b s i w hs hi' hb h h9
 exact next_other b s i w hs hi' hb h h3 h4 h6 h7 h8 h9
end Go.Proofs.YtlmbfijhkcmncaaGreatDoor
namespace Go.Proofs.YtlmbfijhkcmncaaGreatDoor
open Go.RowKit
def q1u (C:Array Value) (l:List UInt8) (k:Int):Array Value:=l.foldl (λC c=>C.setIfInBounds c.toNat (.int .i64 k)) C
theorem q3m (C:Array Value) (l:List UInt8) (k:Int):(q1u C l k).size=C.size:=by
 unfold q1u
 induction l generalizing C with
 | nil=>rfl
 | cons c r ih=>rw [QC,ih];simp
theorem setAll_snoc (C:Array Value) (l:List UInt8) (c:UInt8) (k:Int):q1u C (l++[c]) k=(q1u C l k).setIfInBounds c.toNat (.int .i64 k):=by
 simp [q1u]
theorem ql7 (w:World) (g i:Nat) (C:Array Value) (t:TypeId) (v:Value) (C':Array Value) (hg:w.heap[g]? = some (.cells C t (0,0))):(w.setRow g C').setCell ⟨g,i,none⟩ v=w.setRow g (C'.setIfInBounds i v):=by
 simp only [Qx,World.setCell]
 congr 1
 apply QR
 intro j;simp only [Ql];by_cases h:g=j
 ·subst h;simp [hg]
 ·simp [h]
theorem setRow_heap (w:World) (g:Nat) (C:Array Value) (t:TypeId) (C':Array Value) (hg:w.heap[g]? = some (.cells C t (0,0))):(w.setRow g C').heap[g]? = some (.cells C' t (0,0)):=by
 simp [Qx,Ql,hg]
theorem setRow_self (w:World) (g:Nat) (C:Array Value) (t:TypeId) (hg:w.heap[g]? = some (.cells C t (0,0))):w.setRow g C=w:=by
 simp only [Qx];have:(w.heap.modify g fun | .cells _ elem frozen=>.cells C elem frozen | o=>o)=w.heap:=by
  apply QR
  intro j;rw [Ql];by_cases h:g=j
  ·subst h;simp [hg]
  ·simp [h]
 exact congrArg (λh=>({ w with heap:=h }:World)) this
set_option maxRecDepth 100000 in
set_option maxHeartbeats 1000000 in
theorem set_any (s:ByteArray) (k:Int) (g:Nat) (C:Array Value) (w:World) (hs:s.size≤1000) (hC:C.size=256) (hg:w.heap[g]? = some (.cells C 107 (0,0))) :
  Calls Tryz.prog 85 #[.string s,.int .i64 k,.pointer (some ⟨g,0,none⟩)] w λe w'=>e=.returned (.tuple #[])∧w'=w.setRow g (q1u C s.data.toList k):=by
 have HG:=Q0 hg;have hw:w=w.setRow g (q1u C (s.data.toList.take 0) k):=(setRow_self w g C _ hg).symm;have HW:=Q0 hw;clear hw hg;have HC:=Q0 hC;clear hC
 go_enter Tryz.func85,Tryz.ntmps85
 go_wp2
 go_loopw [5] (λv wr=>∃ i:Nat,i≤s.size∧v=.int .i64 i∧wr=w.setRow g (q1u C (s.data.toList.take i) k)) (λv _=>s.size-(intOf v).toNat)
 case atStart=>exact ⟨0,by omega,rfl,HW.out⟩
 case round =>
  obtain ⟨i,hi,rfl,hwr⟩:=hrel;have HWR:=Q0 hwr;clear hwr;by_cases hlt:i<s.size
  ·have hx:=q7y s i hlt
   have HX:=Q0 hx;clear hx;have hb:s[i].toNat<256:=Qo s[i];have hh:wr.heap[g]? = some (.cells (q1u C (s.data.toList.take i) k) 107 (0,0)):=by rw [HWR.out];exact setRow_heap w g C _ _ HG.out
   have hcell:wr.cell? ⟨g,s[i].toNat,none⟩=some ((q1u C (s.data.toList.take i) k)[s[i].toNat]'(by rw [q3m,HC.out];exact hb)):=by
    rw [cell_of_row wr g _ _ _ _ hh];simp
   have hfr:wr.frozen? ⟨g,s[i].toNat,none⟩=false:=frozen_of_row wr g _ _ _ hh;clear hh;generalize (q1u C (s.data.toList.take i) k)[s[i].toNat]'(by rw [q3m,HC.out];exact hb)=old at *
   go_wp2
   go_roundw
   case rel =>
    refine ⟨i+1,by omega,by go_num,?_⟩
    rw [List.take_add_one,HX.out,HWR.out];simp only [Option.toList];rw [setAll_snoc,← ql7 w g _ C _ _ _ HG.out]
   case measure=>simp [intOf];omega
  ·go_wp2
   go_end0
   refine ⟨rfl,?_⟩;have hi2:i=s.size:=by omega
   rw [HWR.out,Qk (by rw [← q0c];omega)]
theorem setRow_two (w:World) (o:Obj) (c c':Array Value) (t:TypeId):((w.alloc o).alloc (.cells c t)).setRow (w.heap.size+1) c'=(w.alloc o).alloc (.cells c' t):=by
 have:=QF (w.alloc o) c c' t
 simpa using this
theorem heap_two (w:World) (o o':Obj):((w.alloc o).alloc o').heap[w.heap.size+1]? = some o':=by
 have:=heap_alloc_last (w.alloc o) o'
 simpa using this
theorem q75 (s:ByteArray) (k:Int) (w:World) (o:Obj) (C:Array Value) (hs:s.size≤1000) (hC:C.size=256) :
  Calls Tryz.prog 85 #[.string s,.int .i64 k,.pointer (some ⟨w.heap.size+1,0,none⟩)] ((w.alloc o).alloc (.cells C 107)) λe w' =>
   e=.returned (.tuple #[])∧w'=(w.alloc o).alloc (.cells (q1u C s.data.toList k) 107):=by
 refine (set_any s k (w.heap.size+1) C _ hs hC (heap_two w o _)).mono ?_;rintro e w' ⟨rfl,rfl⟩;exact ⟨rfl,setRow_two w o _ _ _⟩
def tab0:Array Value:=Array.replicate 256 (.int .i64 0)
def tab1:Array Value:=q1u tab0 [97,98,99,100,101,102,103,104,105,106,107,108,109,110,111,112,113,114,115,116,117,118,119,120,121,122,65,66,67,68,69,70,71,72,73,74,75,76,77,78,79,80,81,82,83,84,85,86,87,88,89,90] 3
def tab2:Array Value:=q1u tab1 [48,49,50,51,52,53,54,55,56,57] 4
def tab3:Array Value:=q1u tab2 [95] 5
def tab4:Array Value:=q1u tab3 [32,9,10] 1
def tab5:Array Value:=q1u tab4 [35] 2
def tab6:Array Value:=q1u tab5 [34] 6
def tab7:Array Value:=q1u tab6 [33] 7
def tab8:Array Value:=q1u tab7 [60,62] 8
def tab9:Array Value:=q1u tab8 [59,44,46,58,40,41,91,93,123,125,61,43,45] 9
theorem qcd:tab0.size=256:=by simp [tab0]
theorem tab1_size:tab1.size=256:=by unfold tab1;rw [q3m,qcd]
theorem tab2_size:tab2.size=256:=by unfold tab2;rw [q3m,tab1_size]
theorem tab3_size:tab3.size=256:=by unfold tab3;rw [q3m,tab2_size]
theorem tab4_size:tab4.size=256:=by unfold tab4;rw [q3m,tab3_size]
theorem tab5_size:tab5.size=256:=by unfold tab5;rw [q3m,tab4_size]
theorem tab6_size:tab6.size=256:=by unfold tab6;rw [q3m,tab5_size]
theorem tab7_size:tab7.size=256:=by unfold tab7;rw [q3m,tab6_size]
theorem tab8_size:tab8.size=256:=by unfold tab8;rw [q3m,tab7_size]
def q4g:Array Value:=((QK 256).map λc=>Wi .i64 (Lx.cls (Qq c):Nat)).toArray
theorem tab_all:tab9=q4g:=by kernel_rfl
theorem q7e:q4g.size=256:=by kernel_rfl
theorem clsTab_at (c:UInt8):q4g[c.toNat]? = some (.int .i64 (Lx.cls c:Nat)):=by
 have hc:c.toNat<256:=Qo c;have h:q4g.toList[c.toNat]? = some (.int .i64 (Lx.cls c:Nat)):=by
  show ((QK 256).map λc=>Wi .i64 (Lx.cls (Qq c):Nat))[c.toNat]? = _
  rw [QU,List.getElem?_range hc];simp
 simpa using h
theorem qk5:q4g.all (·.oneCell')=true:=by kernel_rfl
theorem zero_tab:∀ w,(zeroValue 107).run Tryz.prog w=.ok (.agg tab0) w:=λ_=>by kernel_rfl
theorem qj0:(Tryz.prog.info? 107).map (·.size)=some 256:=by kernel_rfl
set_option maxRecDepth 100000 in
set_option maxHeartbeats 1000000 in
theorem classes_any (w:World) :
  Calls Tryz.prog 58 #[] w λe w'=>e=.returned (.agg q4g)∧Below w.heap.size w w':=by
 have hmf:∀ (fn:Fn) (first cap:Array Value) (w:World),(Instr.makeFunc fn first cap).run Tryz.prog w=.ok (.func fn first cap) w:=λ_ _ _ _=>rfl
 have hz:=zero_tab
 go_enter Tryz.func58,Tryz.ntmps58
 go_wp2_with fail
 refine (q75 { data:=#[97,98,99,100,101,102,103,104,105,106,107,108,109,110,111,112,113,114,115,116,117,118,119,120,121,122,65,66,67,68,69,70,71,72,73,74,75,76,77,78,79,80,81,82,83,84,85,86,87,88,89,90] } 3 w _ tab0 (by show 52≤1000;omega) qcd).mono ?_
 rintro e w' ⟨rfl,rfl⟩;rw [show q1u tab0 ({ data:=#[97,98,99,100,101,102,103,104,105,106,107,108,109,110,111,112,113,114,115,116,117,118,119,120,121,122,65,66,67,68,69,70,71,72,73,74,75,76,77,78,79,80,81,82,83,84,85,86,87,88,89,90] }:ByteArray).data.toList 3=tab1 from rfl]
 go_wp2_with fail
 refine (q75 { data:=#[48,49,50,51,52,53,54,55,56,57] } 4 w _ tab1 (by show 10≤1000;omega) tab1_size).mono ?_
 rintro e w' ⟨rfl,rfl⟩;rw [show q1u tab1 ({ data:=#[48,49,50,51,52,53,54,55,56,57] }:ByteArray).data.toList 4=tab2 from rfl]
 go_wp2_with fail
 refine (q75 { data:=#[95] } 5 w _ tab2 (by show 1≤1000;omega) tab2_size).mono ?_
 rintro e w' ⟨rfl,rfl⟩;rw [show q1u tab2 ({ data:=#[95] }:ByteArray).data.toList 5=tab3 from rfl]
 go_wp2_with fail
 refine (q75 { data:=#[32,9,10] } 1 w _ tab3 (by show 3≤1000;omega) tab3_size).mono ?_
 rintro e w' ⟨rfl,rfl⟩;rw [show q1u tab3 ({ data:=#[32,9,10] }:ByteArray).data.toList 1=tab4 from rfl]
 go_wp2_with fail
 refine (q75 { data:=#[35] } 2 w _ tab4 (by show 1≤1000;omega) tab4_size).mono ?_
 rintro e w' ⟨rfl,rfl⟩;rw [show q1u tab4 ({ data:=#[35] }:ByteArray).data.toList 2=tab5 from rfl]
 go_wp2_with fail
 refine (q75 { data:=#[34] } 6 w _ tab5 (by show 1≤1000;omega) tab5_size).mono ?_
 rintro e w' ⟨rfl,rfl⟩;rw [show q1u tab5 ({ data:=#[34] }:ByteArray).data.toList 6=tab6 from rfl]
 go_wp2_with fail
 refine (q75 { data:=#[33] } 7 w _ tab6 (by show 1≤1000;omega) tab6_size).mono ?_
 rintro e w' ⟨rfl,rfl⟩;rw [show q1u tab6 ({ data:=#[33] }:ByteArray).data.toList 7=tab7 from rfl]
 go_wp2_with fail
 refine (q75 { data:=#[60,62] } 8 w _ tab7 (by show 2≤1000;omega) tab7_size).mono ?_
 rintro e w' ⟨rfl,rfl⟩;rw [show q1u tab7 ({ data:=#[60,62] }:ByteArray).data.toList 8=tab8 from rfl]
 go_wp2_with fail
 refine (q75 { data:=#[59,44,46,58,40,41,91,93,123,125,61,43,45] } 9 w _ tab8 (by show 13≤1000;omega) tab8_size).mono ?_
 rintro e w' ⟨rfl,rfl⟩;rw [show q1u tab8 ({ data:=#[59,44,46,58,40,41,91,93,123,125,61,43,45] }:ByteArray).data.toList 9=tab9 from rfl];rw [tab_all]
 go_wp2_with (first | (refine wpList_load_row rfl 107 _ rfl (w.heap.size+1) rfl 107 q4g (0,0) _ (heap_two w _ _) Tryz.underlying107 rfl (by rw [q7e];exact qj0) ?_) | (refine wpList_store_row rfl 107 _ _ rfl w.heap.size q4g rfl rfl 107 tab0 ?h1 (by rw [q7e];exact qj0) (by rw [q7e,qcd]) qk5 ?_))
 case h1=>exact heap_alloc2_old w _ _
 have hh:((((w.alloc (.cells tab0 107)).alloc (.cells q4g 107))).setRow w.heap.size q4g).heap[w.heap.size]? = some (.cells q4g 107 (0,0)) :=
  setRow_heap _ _ tab0 _ _ (heap_alloc2_old w _ _)
 refine bodyPost_ret (results_cell_row rfl _ _ w.heap.size 107 q4g (0,0) _ rfl hh Tryz.underlying107 rfl (by rw [q7e];exact qj0)) rfl ⟨rfl,?_⟩
 refine (((Below.refl w.heap.size w).alloc (Q3 _) (.cells tab0 107)).alloc (by simp) (.cells q4g 107)).trans ⟨rfl,rfl,rfl,by simp,λk hk=>?_⟩
 simp only [Qx,Ql];rw [if_neg (by omega)]
end Go.Proofs.YtlmbfijhkcmncaaGreatDoor
namespace Go.Proofs.YtlmbfijhkcmncaaGreatDoor
open Go.RowKit
attribute [local go_sem] q12 q0q q0s
def Lx.Tok.cells (t:Lx.Tok):List Value:=[.int .i64 t.kind,.int .i64 t.pos,.int .i64 t.n,.string (bs t.text)]
def q43 (l:List Lx.Tok):List Value:=l.flatMap Lx.Tok.cells
theorem qcs (l r:List Lx.Tok):q43 (l++r)=q43 l++q43 r:=by simp [q43]
def qbs (w:World) (base:Nat) (v:Value) (l:List Lx.Tok):Prop:=w.ownsRow base 89 4 v l.length (q43 l)
theorem info_tok:(Tryz.prog.info? 89).map (λi=>(i.zero,i.size,i.bytes))=some (some (.agg #[.int .i64 0,.int .i64 0,.int .i64 0,.string { data:=#[] }]),4,40):=by kernel_rfl
def q30 (s:ByteArray):Array Value:=#[.string s]++q4g
theorem qdh (s:ByteArray):(q30 s).size=257:=by
 unfold q30;rw [QV,q7e];rfl
theorem qlb (s:ByteArray):(q30 s).all (·.oneCell')=true:=by
 unfold q30;rw [Array.all_append,qk5];simp [Wh]
theorem zeroScan:∀ w,(zeroValue 110).run Tryz.prog w=.ok (.agg (#[.string { data:=#[] }]++tab0)) w:=λ_=>by kernel_rfl
theorem builtScan (s:ByteArray):Tryz.prog.built 110 [(0,.string s),(1,.agg q4g)]=some (q30 s):=by kernel_rfl
theorem infoScan:(Tryz.prog.info? 110).map (·.size)=some 257:=by kernel_rfl
theorem scan_new (w:World) (s:ByteArray) (t:TypeId) (g:Nat) (h:Blk w g t (q30 s)):Scan w g s:=by
 refine ⟨(h.cell 0).trans ?_,λc=>(h.cell _).trans ?_⟩
 ·unfold q30
  rw [Array.getElem?_append_left (by simp)]
  rfl
 ·unfold q30
  rw [Array.getElem?_append_right (by simp)]
  simp only [List.size_toArray,QH,Qp];exact clsTab_at c
end Go.Proofs.YtlmbfijhkcmncaaGreatDoor
namespace Go.Proofs.YtlmbfijhkcmncaaGreatDoor
open Go.RowKit
attribute [local go_sem] q12 q0q q0s
theorem setRow_last (w:World) (c c':Array Value) (t:TypeId):(w.alloc (.cells c t)).setRow w.heap.size c'=w.alloc (.cells c' t):=QF w c c' t
structure LexRel (s:ByteArray) (w0:World) (out i:Value) (wr:World):Prop where
 ex:∃ (A:Option Addr) (c k f:Nat) (l:List Lx.Tok),out=.slice A l.length c∧i=.int .i64 k∧k≤s.size∧l.length≤5000 ∧
  wr.ownsRow w0.heap.size 89 4 out l.length (q43 l)∧s.size<f+k∧Lx.q4k f l k (s.data.toList.drop k)=Lx.lex s.data.toList
 below:Below w0.heap.size w0 wr
set_option maxRecDepth 100000 in
set_option maxHeartbeats 400000 in
theorem lex_any (s:ByteArray) (w:World) (hs:s.size≤9223372036854775807) :
  Calls Tryz.prog 33 #[.string s] w λe w'=>∃ v,e=.returned (.tuple #[v,.int .i64 (Lx.lex s.data.toList).2.1,.int .i64 (Lx.lex s.data.toList).2.2]) ∧
   qbs w' w.heap.size v (Lx.lex s.data.toList).1∧Below w.heap.size w w':=by
 by_cases hbig:20000<s.size
 ·have hl:Lx.lex s.data.toList=([],2,-1):=by
   unfold Lx.lex;rw [if_pos (by rw [← q0c];exact hbig)]
  rw [hl];clear hl
  go_enter Tryz.func33,Tryz.ntmps33
  go_wp2
  go_ret3
  exact ⟨_,rfl,⟨rfl,.inl ⟨rfl,rfl⟩⟩,q03 w⟩
 ·have hz:=zeroScan
  go_enter Tryz.func33,Tryz.ntmps33
  go_wp2_with fail
  refine (classes_any _).mono ?_;rintro e w1 ⟨rfl,hb1⟩;have HB1:=Q0 hb1;clear hb1
  go_wp2_with (first | (refine qjt rfl 110 _ rfl [(0,.string s),(1,.agg q4g)] rfl (q30 s) (builtScan s) ?_) | (refine wpList_store_row rfl 110 _ _ rfl w1.heap.size (q30 s) rfl rfl 110 _ (heap_alloc_last w1 _) (by rw [qdh];exact infoScan) (by rw [qdh,QV,qcd];rfl) (qlb s) ?_))
  rw [setRow_last w1 _ (q30 s)]
  go_wp2_with fail
  refine (gap_any w1.heap.size s 0 _ (by omega) (by omega) (by omega) (by simp) (scan_new _ s _ _ (Blk.new w1 _ _))).mono ?_
  rintro e w2 ⟨rfl,hb2⟩;rw [show (0:Int).toNat=0 from rfl,Qe,Qf];have hw0:Below w.heap.size w (w1.alloc (.cells (q30 s) 110)):=q02 HB1.out _;have hS0:=scan_new _ s _ _ (Blk.new w1 110 (q30 s));have hlt0:w1.heap.size<(w1.alloc (.cells (q30 s) 110)).heap.size:=by simp
  generalize hW0:w1.alloc (.cells (q30 s) 110)=W0 at *
  generalize hB0:w1.heap.size=b0 at *
  clear hW0 hz;have hg0:=Lx.q7j s.data.toList;rw [← q0c] at hg0;have hl:Lx.q4k (s.data.toList.length+1) [] (Lx.gap s.data.toList) (s.data.toList.drop (Lx.gap s.data.toList))=Lx.lex s.data.toList:=by
   unfold Lx.lex;rw [if_neg (by rw [← q0c];exact hbig)]
  have HL:=Q0 hl;have HW0:=Q0 hw0;have HS0:=Q0 hS0;have HB2:=Q0 hb2;clear hl hw0 hS0 hb2
  go_wp2
  go_loopw [6,7] (λout i wr=>LexRel s W0 out i wr) (λ_ i _=>s.size-(intOf i).toNat)
  case atStart=>exact ⟨⟨none,0,_,_,[],rfl,rfl,hg0,by simp,⟨rfl,.inl ⟨rfl,rfl⟩⟩,by rw [q0c];omega,HL.out⟩,HB2.out⟩
  case round =>
   obtain ⟨⟨A,c,k,f,l,rfl,rfl,hk,hl5,hown,hf,hlex⟩,hbr⟩:=hrel;have HOWN:=Q0 hown;have HLEX:=Q0 hlex;clear hown hlex HL HB2;have hSr:=HS0.out.below hbr hlt0;have hszr:=hbr.size;have HBR:=Q0 hbr;have HSR:=Q0 hSr;clear hbr hSr;by_cases hlt:k<s.size
   ·obtain ⟨f,rfl⟩:∃ f',f=f'+1:=⟨f-1,by omega⟩
    have hd:=q10 s k hlt;have hlex:=HLEX.out;rw [hd] at hlex;have HLX:=Q0 hlex;have HD:=Q0 hd;clear hlex hd HLEX
    go_wp2_with fail
    refine (next_any b0 s k _ (by omega) (by omega) (by omega) (by omega) HSR.out).mono ?_
    rintro e w3 ⟨rfl,hb3⟩;rw [Q8];have hw:=Lx.qb4 (s.data.toList.drop k);unfold Lx.Fits at hw;rw [Q7,← q0c] at hw;have h1:=Lx.qay f l k s[k] (s.data.toList.drop (k+1));have h2:=Lx.qaa f l k s[k] (s.data.toList.drop (k+1));have h3:=Lx.qaj f l k s[k] (s.data.toList.drop (k+1));have hlx:=HLX.out;rw [← HD.out] at h1 h2 h3 hlx;obtain ⟨q,hq,hq2⟩:∃ q:Int,(Lx.scan (s.data.toList.drop k)).out k=.agg #[.int .i64 (Lx.scan (s.data.toList.drop k)).kind,.int .i64 q,.int .i64 (Lx.scan (s.data.toList.drop k)).n,.string (bs (Lx.scan (s.data.toList.drop k)).text)] ∧
      ((Lx.scan (s.data.toList.drop k)).err=0→q=k):=⟨_,rfl,λh=>by rw [if_pos h]⟩
    rw [hq];clear hq HLX HD;generalize Lx.scan (s.data.toList.drop k)=r at *
    obtain ⟨err,kind,n,text,width⟩:=r;simp only [] at hw h1 h2 h3 hq2;simp only [Lx.Sc.fin];by_cases he:err=0
    ·subst he
     rw [if_pos rfl];obtain rfl:=hq2 rfl;obtain ⟨hw1,hw2⟩:=hw rfl;by_cases hfull:l.length=5000
     ·have hfin:=h1 rfl hfull
      rw [hlx] at hfin;have HFIN:=Q0 hfin;have hfull':((l.length:Int)==5000)=true:=by rw [beq_iff_eq];omega
      clear hfin hlx h1 h2 h3 hfull;have HB3:=Q0 hb3;clear hb3
      go_wp2
      go_ret3
      refine ⟨.slice none 0 0,?_,?_,?_⟩
      ·rw [HFIN.out];rfl
      ·rw [HFIN.out];exact ⟨rfl,.inl ⟨rfl,rfl⟩⟩
      ·exact HW0.out.trans ((HBR.out.trans ((q02 HB3.out _).mono hszr)).mono HW0.out.size)
     ·have hfin:=h3 rfl hfull
      rw [hlx] at hfin;have HFIN:=Q0 hfin;have hfull':((l.length:Int)==5000)=false:=by rw [beq_eq_false_iff_ne];omega
      have hlenb:l.length+1≤5000:=by omega
      clear hfin hlx h1 h2 h3 hfull;have HB3:=Q0 hb3;clear hb3;obtain ⟨i0,hi0,hz0,hz1,hz2⟩:=info_parts info_tok;have hub:∀ u∈[Wi .i64 kind,.int .i64 k,.int .i64 n,.string (bs text)],u.oneCell'=true:=by simp [Wh]
      have HUB:=Q0 hub;clear hub;have hb3z:=HB3.out.size
      go_wp2_with (first | (at_builtin;refine wpList_append_own _ rfl _ _ 76 rfl W0.heap.size 89 i0 (.agg #[.int .i64 0,.int .i64 0,.int .i64 0,.string { data:=#[] }]) 4 40 Tryz.underlying76 hi0 hz0 hz1 hz2 rfl (by decide) _ l.length (q43 l) rfl (q31 (q31 (q31 HOWN.out HB3.out) (q02 (q03 w3) _)) (q02 (q03 _) _)) ⟨w3.heap.size+1,0,none⟩ 1 1 [.int .i64 kind,.int .i64 k,.int .i64 n,.string (bs text)] rfl rfl (by exact cells_new _ [.int .i64 kind,.int .i64 k,.int .i64 n,.string (bs text)] _ _ (by simp)) HUB.out (by unfold maxLen;omega) (by omega) (by simp;omega) ?_;intro v' w4 hown4 hg4 _))
      obtain ⟨A',c',rfl⟩:=q4a hown4;have hbel4:Below W0.heap.size W0 w4:=(HBR.out.trans (HB3.out.mono hszr)).trans ((((q03 w3).alloc (Q3 _) _).alloc (by simp) _).mono (by omega)) |>.grown hg4 (by simp;omega) (q2r HOWN.out)
      have hS4:=HS0.out.below hbel4 hlt0;have hz4:=hbel4.size;have HBEL4:=Q0 hbel4;have HOWN4:=Q0 hown4;clear hbel4 hown4 hg4;refine (gap_any b0 s _ _ (by omega) (by omega) (by omega) (by omega) hS4).mono ?_
      rintro e w5 ⟨rfl,hb5⟩;rw [show ((k:Int)+(width:Int)).toNat=k+width from by omega]
      have hgl:=Lx.q7j (s.data.toList.drop (k+width));rw [Q7,← q0c] at hgl;have hfin:=HFIN.out;rw [Qg,Qg] at hfin;have HFIN2:=Q0 hfin;clear hfin HFIN;generalize Lx.gap (s.data.toList.drop (k+width))=gg at *
      have HB5:=Q0 hb5;clear hb5 hS4
      go_wp2
      go_roundw
      case rel =>
       refine ⟨⟨A',c',k+width+gg,f,l++[Lx.Sc.tok ⟨0,kind,n,text,width⟩ k],?_,by go_num,by omega,?_,?_,by omega,?_⟩,HBEL4.out.trans (HB5.out.mono hz4)⟩
       ·rw [Qn];rfl
       ·rw [Qn];exact hlenb
       ·have h5:=q31 HOWN4.out HB5.out
        rw [qcs,Qn];exact h5
       ·rw [← HFIN2.out]
      case measure=>simp [intOf];omega
    ·rw [if_neg he]
     have hfin:=h2 he;rw [hlx] at hfin;have HFIN:=Q0 hfin;have he':(err==0)=false:=by rw [beq_eq_false_iff_ne];exact he
     have he'':(err != 0)=true:=by rw [bne_iff_ne];exact he
     clear hfin hlx h1 h2 h3 he hw hq2;have HB3:=Q0 hb3;clear hb3
     go_wp2
     go_ret3
     refine ⟨.slice none 0 0,?_,?_,?_⟩
     ·rw [HFIN.out];rfl
     ·rw [HFIN.out];exact ⟨rfl,.inl ⟨rfl,rfl⟩⟩
     ·exact HW0.out.trans ((HBR.out.trans ((q02 HB3.out _).mono hszr)).mono HW0.out.size)
   ·have hk2:k=s.size:=by omega
    have hd:s.data.toList.drop k=[]:=Qb (by rw [← q0c];omega)
    have hfin:=HLEX.out;rw [hd,Lx.qgd] at hfin;have HFIN:=Q0 hfin;clear hfin hd HLEX;have HK2:=Q0 hk2;clear hk2
    go_wp2
    go_ret3
    refine ⟨.slice A l.length c,?_,?_,HW0.out.trans (HBR.out.mono HW0.out.size)⟩
    ·rw [← HFIN.out];rfl
    ·rw [← HFIN.out]
     exact q6u HOWN.out HW0.out.size
end Go.Proofs.YtlmbfijhkcmncaaGreatDoor
namespace Go.Proofs.YtlmbfijhkcmncaaGreatDoor
open Go.RowKit R
abbrev kTok:Kds:=.cons (.int .i64) (.cons (.int .i64) (.cons (.int .i64) (.one .str)))
def tokP (t:Lx.Tok):Int×Int×Int×List UInt8:=(t.kind,t.pos,t.n,t.text)
def lexP (s:List UInt8):List (Int×Int×Int×List UInt8)×Int×Int:=((Lx.lex s).1.map tokP,(Lx.lex s).2.1,(Lx.lex s).2.2)
def cLex:Con:=.of 33 [.one .str] [.one (.sl kTok),.one (.int .i64),.one (.int .i64)] (λs=>QW s≤1000000) lexP
theorem tok_at (l:List Lx.Tok) (i:Nat) (t:Lx.Tok) (h:l[i]? = some t) (r:Nat) (hr:r<4):(q43 l)[i*4+r]? = t.cells[r]? := by
 induction l generalizing i with
 | nil=>simp at h
 | cons x l ih =>
  have e:q43 (x::l)=x.cells++q43 l:=rfl;have hl:x.cells.length=4:=rfl;rw [e];cases i with
  | zero =>
   injection h with h;subst h;rw [Nat.zero_mul,Qf,List.getElem?_append_left (by omega)]
  | succ i =>
   rw [List.getElem?_append_right (by omega),hl,show (i+1)*4+r-4=i*4+r by omega]
   exact ih i h
section
variable {S:Nat→Prop} {w:World} {v:Value}
theorem tok_row {base:Nat} {l:List Lx.Tok} (h:qbs w base v l) (hS:∀ g,base≤g→g<w.heap.size→S g):Kd.Rep w S (.sl kTok) (l.map tokP) v:=by
 have hlen:(l.map tokP).length=l.length:=List.length_map ..;rcases h.2 with ⟨rfl,h0⟩ | ⟨g,cap,cur,rfl,hb,hg,hc,_,hsz,ht⟩
 ·refine ⟨none,0,by rw [hlen,h0],by rw [hlen,h0];exact Q3 _,λhl=>?_⟩
  rw [hlen] at hl;omega
 ·have hlt:g<w.heap.size:=by
   rcases QQ g w.heap.size with h' | h'
   ·exact h'
   ·rw [Array.getElem?_eq_none h'] at hg;cases hg
  refine ⟨_,cap,by rw [hlen],by rw [hlen];exact hc,λhl=>⟨g,0,rfl,hlt,hS g hb hlt,λi x hx=>?_⟩⟩
  have hx:(l.map tokP)[i]? = some x:=hx;rw [QU] at hx;cases ht':l[i]? with
  | none=>rw [ht'] at hx;cases hx
  | some t =>
   rw [ht'] at hx;injection hx with hx;subst hx;have hil:i<l.length:=(List.getElem?_eq_some_iff.1 ht').1;have key:∀ r u,r<4→t.cells[r]? = some u→w.cell? ⟨g,0+i*4+r,none⟩=some u:=λr u hr hu=>by
    have h1:=tok_at l i t ht' r hr;rw [hu,← ht,QS,if_pos (by omega),Array.getElem?_toList] at h1
    rw [Qf];unfold World.cell?;simp [hg,h1]
   exact ⟨⟨_,key 0 _ (by omega) rfl,rfl⟩,⟨_,key 1 _ (by omega) rfl,rfl⟩,⟨_,key 2 _ (by omega) rfl,rfl⟩,⟨_,key 3 _ (by omega) rfl,rfl⟩⟩
end
theorem lex_holds:cLex.Holds Tryz.prog:=by
 refine ⟨⟨⟨_,Tryz.func33,by kernel_rfl,by kernel_rfl⟩,λF' hF p r hr=>by injection hF with hF;subst hF;exact hr⟩,λs0 vs w S hS hp hvs=>?_⟩
 obtain ⟨v,rfl,hv⟩:=qdb hvs;obtain ⟨s,rfl⟩:∃ s:List UInt8,s=s0:=⟨s0,rfl⟩;obtain rfl:v=.string (bs s):=hv;have hp:s.length≤1000000:=hp;have hsz:(bs s).size≤9223372036854775807:=by rw [q3j];omega
 refine (lex_any (bs s) w hsz).mono ?_;rintro e w' ⟨v,rfl,hrow,hbl⟩;have hrow:qbs w' w.heap.size v (Lx.lex s).1:=hrow;refine ⟨lexP s,_,rfl,rfl,⟨_,rfl,rfl,?_⟩,hbl⟩;have hr:=tok_row (S:=λg=>S g∨(w.heap.size≤g∧g<w'.heap.size)) hrow (λg h1 h2=>.inr ⟨h1,h2⟩)
 intro i x hx
 match i,hx with
 | 0,hx=>injection hx with hx;subst hx;exact ⟨_,rfl,hr⟩
 | 1,hx=>injection hx with hx;subst hx;exact ⟨_,rfl,rfl⟩
 | 2,hx=>injection hx with hx;subst hx;exact ⟨_,rfl,rfl⟩
end Go.Proofs.YtlmbfijhkcmncaaGreatDoor
namespace Go.Proofs.YtlmbfijhkcmncaaGreatDoor
namespace Snd
abbrev Str:=List UInt8
abbrev Conf:=Str×Str
def letB (c:UInt8):Bool:=decide (97≤c.toNat)&&decide (c.toNat≤122)
def lettersB (s:Str) (lo hi:Int):Bool:=s.all letB&&(decide (lo≤(s.length:Int))&&decide ((s.length:Int)≤hi))
def flip (c:Conf):Conf:=(c.2,c.1)
def same (c d:Conf):Bool:=c==d||c==flip d
def fresh:List Conf→Bool
 | []=>true
 | c::r=>!(r.any (same c))&&fresh r
def rising:List Str→Bool
 | []=>true
 | [_]=>true
 | a::b::r=>Op.bytesLess a b&&rising (b::r)
def q09 (lang:Str) (ws:List Str):Bool:=Lx.q0j lang&&(decide (1≤ws.length)&&(decide (ws.length≤4096)&&(ws.all (λs=>lettersB s 3 8)&&rising ws)))
def Rep (x y a b:Str):Prop:=∃ u v,x=u++a++v∧y=u++b++v
end Snd
namespace Snd
theorem q70 {α:Type} (l:List α) (d:α) (k:Nat) (h:k<l.length):l.take (k+1)=l.take k++[l.getD k d]:=by
 rw [List.take_succ_eq_append_getElem h,Qu,Qy h];rfl
theorem q5y {α:Type} (l:List α) (d:α) (k:Nat) (h:k<l.length):l.getD k d∈l:=by
 rw [Qu,Qy h];exact List.getElem_mem h
theorem qev {α:Type} (l:List α) (d:α) (p:α→Bool) (k:Nat) (h:k<l.length):(l.take (k+1)).all p=((l.take k).all p&&p (l.getD k d)):=by
 rw [q70 l d k h,List.all_append,Qm,List.all_nil,QP]
theorem all_no {α:Type} (l:List α) (d:α) (p:α→Bool) (k:Nat) (h:k<l.length) (hp:p (l.getD k d)=false):l.all p=false:=by
 rw [← Bool.not_eq_true,Qz];intro ha;have:=ha _ (q5y l d k h);rw [hp] at this;cases this
end Snd
namespace Rul
abbrev Str:=List UInt8
abbrev Rule:=Str×Str×Str×Bool
abbrev q11:=Str×Str×List Rule
def q0e (s:Str) (lo hi:Int):Bool:=s.all Al.q1o&&(decide (lo≤(s.length:Int))&&decide ((s.length:Int)≤hi))
def q1g (x:Rule):Bool:=q0e x.1 1 9&&(q0e x.2.1 0 9&&(q0e x.2.2.1 0 30&&!(x.2.2.2&&!(x.2.2.1==[]))))
def once:List Rule→Bool
 | []=>true
 | x::r=>!(r.any λy=>x==y)&&once r
def q04 (r:q11):Bool:=Lx.q0j r.1&&(Lx.q0j r.2.1&&(decide (1≤r.2.2.length)&&(decide (r.2.2.length≤80)&&(r.2.2.all q1g&&once r.2.2))))
def q07 (L:List Str) (s:Str) (most:Int):List Int×Bool :=
 if s=[] then ([],true) else ((Al.q0m L s).1,(Al.q0m L s).2.1==0&&decide (((Al.q0m L s).1.length:Int)≤most))
def okIn (from_ to:List Str) (x:Rule):Bool:=(q07 from_ x.1 3).2&&((q07 from_ x.2.2.1 10).2&&(q07 to x.2.1 3).2)
def q09 (r:q11) (from_ to:Al.Alph):Bool :=
 q04 r&&(Al.q09 from_&&(Al.q09 to&&(r.1==from_.name&&(r.2.1==to.name&&r.2.2.all (okIn from_.letters to.letters)))))
abbrev q0g:=Rule×List Int×List Int
def q1b (L:List Str) (x:Rule):q0g:=(x,(q07 L x.1 3).1,(q07 L x.2.2.1 10).1)
def q0x (x:q0g) (rest:List Int):Bool :=
 decide (x.2.1.length≤rest.length)&&(x.2.1==rest.take x.2.1.length &&
  (if x.1.2.2.2 then x.2.1.length==rest.length else if x.2.2=[] then true else decide (x.2.1.length<rest.length)&&x.2.2.contains (rest.getD x.2.1.length 0)))
abbrev Tab:=Nat→List Str
def tab0:Tab:=λn=>if n=0 then [[]] else []
def putT (T:Tab) (at_:Nat) (l:List Str):Tab:=λn=>if n=at_ then T n++l else T n
def q3y (w:List Int) (k:Nat) (T:Tab) (x:q0g):Tab:=if q0x x (w.drop k) then putT T (k+x.2.1.length) ((T k).map (·++x.1.2.1)) else T
def stepK (rs:List q0g) (w:List Int) (T:Tab) (k:Nat):Tab:=rs.foldl (q3y w k) T
def tabs (rs:List q0g) (w:List Int) (k:Nat):Tab:=(QK k).foldl (stepK rs w) tab0
def put (s:Str):List Str→List Str
 | []=>[s]
 | a::l=>if Op.bytesLess s a then s::a::l else if s=a then a::l else a::put s l
def setOf (l:List Str):List Str:=l.foldl (λacc s=>put s acc) []
def q4e (rs:List q0g) (w:List Int) (k:Nat):Bool:=decide (200<(setOf (tabs rs w k k)).length)
def q40 (rs:List q0g) (w:List Int):List Str×Int :=
 if (QK (w.length+1)).any (q4e rs w) then ([],2) else (setOf (tabs rs w w.length w.length),0)
def q21 (r:q11) (from_ to:Al.Alph) (word:Str):List Str×Int :=
 if q09 r from_ to&&(Al.q0m from_.letters word).2.1==0 then q40 (r.2.2.map (q1b from_.letters)) (Al.q0m from_.letters word).1 else ([],1)
def quo (s:Str):Str:=[34]++s++[34]
def q0b (x:Rule):Str :=
 quo x.1++[32,116,111,32]++quo x.2.1++(if x.2.2.2 then [32,97,116,32,101,110,100] else if x.2.2.1=[] then [] else [32,98,101,102,111,114,101,32]++quo x.2.2.1)++[59,10]
def textL (r:q11):Str:=[114,117,108,101,115,32]++r.1++[32,116,111,32]++r.2.1++[59,10]++r.2.2.flatMap q0b
def q56 (r:q11):Str×Int:=if q04 r then (textL r,0) else ([],1)
abbrev Res (α:Type):=Except (Int×Int) α
def take_ (end_:Int) (kind:Int) (txt:Str):List Lx.Tok→Res (Lx.Tok×List Lx.Tok)
 | []=>.error (6,end_)
 | t::r=>if t.kind=0 then .error (6,end_) else if t.kind=kind∧(txt=[]∨t.text=txt) then .ok (t,r) else .error (5,t.pos)
def q4s (end_:Int) (lo hi:Int) (ts:List Lx.Tok):Res (Str×List Lx.Tok) :=
 match take_ end_ 3 [] ts with
 | .ok (t,r)=>if q0e t.text lo hi then .ok (t.text,r) else .error (1,t.pos)
 | .error e=>.error e
end Rul
end Go.Proofs.YtlmbfijhkcmncaaGreatDoor
namespace Go.Proofs.YtlmbfijhkcmncaaGreatDoor
open Go.RowKit
open R
attribute [local go_sem] q12 q0q q0s
def oddR (r:Nat):Bool:=decide (r<33)||(decide (126<r)||r==34)
theorem oddR_byte (c:UInt8):oddR c.toNat=!Al.q1o c:=by
 unfold oddR Al.q1o;have h1:decide (c.toNat<33)=!decide (33≤c):=by rw [← decide_not];exact decide_eq_decide.2 (by rw [Qr];show c.toNat<33↔¬ 33≤c.toNat;omega)
 have h2:decide (126<c.toNat)=!decide (c≤126):=by rw [← decide_not];exact decide_eq_decide.2 (by rw [Qr];show 126<c.toNat↔¬ c.toNat≤126;omega)
 have h3:(c.toNat==34)=(c==34):=by
  rw [Qj,beq_iff_eq,beq_iff_eq];exact ⟨λh=>UInt8.toNat_inj.1 h,λh=>by rw [h];rfl⟩
 rw [h1,h2,h3];cases decide (33≤c) <;> cases decide (c≤126) <;> cases (c==34) <;> rfl
theorem idx_odd (s:List UInt8):∀ (f pos:Nat),s.length-pos≤f→decide (0≤QD oddR true (bs s) f pos)=!((s.drop pos).all Al.q1o)
 | 0,pos,h=>by
  rw [Qb (by omega)]
  unfold QD;rfl
 | f+1,pos,h=>by
  unfold QD;by_cases hlt:pos<s.length
  ·have hlt':pos<(bs s).size:=hlt
   rw [if_pos hlt',List.drop_eq_getElem_cons hlt,Qm];have hg:(bs s)[pos]'hlt'=s[pos]:=rfl;by_cases ha:s[pos].toNat<128
   ·have hd:=decode_ascii (bs s) pos hlt' (by rw [hg];exact ha)
    rw [hg] at hd;rw [hd,oddR_byte];cases hk:Al.q1o s[pos]
    ·simp
    ·rw [Bool.not_true,if_neg Bool.noConfusion,idx_odd s f (pos+1) (by omega),QL]
   ·have hd:=decode_high (bs s) pos hlt' (by rw [hg];omega)
    have ho:oddR (Utf8.decode (bs s) pos).1=true:=by
     unfold oddR;rw [decide_eq_true (p:=126<(Utf8.decode (bs s) pos).1) (by omega)]
     simp
    have hk:Al.q1o s[pos]=false:=by
     unfold Al.q1o;have:decide (s[pos]≤126)=false:=decide_eq_false (by rw [Qr];show ¬ s[pos].toNat≤126;omega)
     rw [this];simp
    rw [ho,if_pos rfl]
    erw [hk]
    rw [QG,Bool.not_false];exact decide_eq_true (by omega)
  ·rw [if_neg (show ¬ pos<(bs s).size from hlt),Qb (by omega)]
   rfl
theorem contains_odd (s:List UInt8):decide (0≤Lib.idxFunc oddR true (bs s))=!(s.all Al.q1o):=by
 have:=idx_odd s s.length 0 (by omega)
 rwa [Qe] at this
theorem odd_at (w:World):PredAt Tryz.prog 80 #[] encR oddR w:=λW r _=>by
 unfold FnGives oddR;by_cases h1:(r:Int)<33
 ·rw [decide_eq_true (show r<33 by omega)]
  go_enter Tryz.func80,Tryz.ntmps80
  go_wp2;go_ret
  exact ⟨rfl,0,rfl⟩
 ·rw [decide_eq_false (show ¬ r<33 by omega)]
  by_cases h2:(126:Int)<r
  ·rw [decide_eq_true (show 126<r by omega)]
   go_enter Tryz.func80,Tryz.ntmps80
   go_wp2;go_ret
   exact ⟨rfl,0,rfl⟩
  ·rw [decide_eq_false (show ¬ 126<r by omega)]
   have h3:((r:Int)==34)=(r==34):=by rw [Qj,beq_iff_eq,beq_iff_eq];omega
   rw [← h3]
   go_enter Tryz.func80,Tryz.ntmps80
   go_wp2;go_ret
   exact ⟨rfl,0,rfl⟩
set_option maxRecDepth 100000 in
theorem plain_any (s:List UInt8) (lo hi:Int) (w:World) (hs:s.length≤1000000000) :
  Calls Tryz.prog 53 #[.string (bs s),.int .i64 lo,.int .i64 hi] w λe w'=>e=.returned (.bool (Rul.q0e s lo hi))∧Below w.heap.size w w':=by
 have hsz:(bs s).size=s.length:=rfl;have hv:Rul.q0e s lo hi=(s.all Al.q1o&&(decide (lo≤(s.length:Int))&&decide ((s.length:Int)≤hi))):=rfl;have cC:=λW=>Tryz.strings_ContainsFunc 80 #[] (enters_of Tryz.func80 (by kernel_rfl) rfl) oddR (bs s) W (odd_at W)
 rw [contains_odd] at cC;have HV:=Q0 hv;have HC:=Q0 cC;clear hv cC
 go_enter Tryz.func53,Tryz.ntmps53
 by_cases h1:lo≤(s.length:Int)
 ·by_cases h2:(s.length:Int)≤hi
  ·have hf:=HV.out
   rw [decide_eq_true h1,decide_eq_true h2] at hf;have HF:=Q0 hf;clear hf
   go_wp2_with fail
   refine (HC.out _).mono ?_;rintro e w' ⟨rfl,hb⟩
   go_wp2
   go_ret
   exact ⟨q1j (by rw [HF.out];cases s.all Al.q1o <;> rfl),hb⟩
  ·have hf:=HV.out
   rw [decide_eq_true h1,decide_eq_false h2] at hf;have HF:=Q0 hf;clear hf
   go_wp2
   go_ret
   exact ⟨q1j (by rw [HF.out];simp),q03 w⟩
 ·have hf:=HV.out
  rw [decide_eq_false h1] at hf;have HF:=Q0 hf;clear hf
  go_wp2
  go_ret
  exact ⟨q1j (by rw [HF.out];simp),q03 w⟩
end Go.Proofs.YtlmbfijhkcmncaaGreatDoor
namespace Go.Proofs.YtlmbfijhkcmncaaGreatDoor
namespace Lx
theorem q51 {p:UInt8→Bool} {c:UInt8} {l:List UInt8} (h:p c=true):span p (c::l)=span p l+1:=by simp [span,h]
theorem q63 {p:UInt8→Bool} {c:UInt8} {l:List UInt8} (h:p c=false):span p (c::l)=0:=by simp [span,h]
inductive LexOk:Nat→List UInt8→List Tok→Prop
 | done (off:Nat) (l:List UInt8) (h:l.drop (gap l)=[]):LexOk off l []
 | tok (off:Nat) (l:List UInt8) (ts:List Tok) (h:l.drop (gap l)≠[]) (he:(scan (l.drop (gap l))).err=0)
   (hr:LexOk (off+gap l+(scan (l.drop (gap l))).width) (l.drop (gap l+(scan (l.drop (gap l))).width)) ts):LexOk off l ((scan (l.drop (gap l))).tok (off+gap l)::ts)
inductive LexErr:Nat→List UInt8→Int→Nat→Prop
 | here (off:Nat) (l:List UInt8) (h:l.drop (gap l)≠[]) (he:(scan (l.drop (gap l))).err≠0):LexErr off l (scan (l.drop (gap l))).err (off+gap l)
 | later (off:Nat) (l:List UInt8) (e:Int) (a:Nat) (h:l.drop (gap l)≠[]) (he:(scan (l.drop (gap l))).err=0)
   (hr:LexErr (off+gap l+(scan (l.drop (gap l))).width) (l.drop (gap l+(scan (l.drop (gap l))).width)) e a):LexErr off l e a
theorem LexOk.det {off:Nat} {l:List UInt8} {ts ts':List Tok} (h:LexOk off l ts) (h':LexOk off l ts'):ts=ts':=by
 induction h generalizing ts' with
 | done off l h=>cases h' with
  | done=>rfl
  | tok _ _ _ h2=>exact absurd h h2
 | tok off l ts h he hr ih=>cases h' with
  | done _ _ h2=>exact absurd h2 h
  | tok _ _ ts2 h2 he2 hr2=>rw [ih hr2]
theorem LexOk.not_err {off:Nat} {l:List UInt8} {ts:List Tok} (h:LexOk off l ts) {e:Int} {a:Nat} (h':LexErr off l e a):False:=by
 induction h with
 | done off l h=>cases h' with
  | here _ _ h2=>exact h2 h
  | later _ _ _ _ h2=>exact h2 h
 | tok off l ts h he hr ih=>cases h' with
  | here _ _ h2 he2=>exact he2 he
  | later _ _ _ _ h2 he2 hr2=>exact ih hr2
theorem LexErr.ne {off:Nat} {l:List UInt8} {e:Int} {a:Nat} (h:LexErr off l e a):e≠0:=by
 induction h with
 | here off l h he=>exact he
 | later off l e a h he hr ih=>exact ih
theorem qca (l:List UInt8):gap (l.drop (gap l))=0:=by
 have H:∀ (l:List UInt8) (b:Bool),gap (l.drop (gapc b l))=0:=by
  intro l
  induction l with
  | nil=>intro b;cases b <;> rfl
  | cons c r ih =>
   intro b;cases b
   ·simp only [gapc]
    split
    ·exact ih false
    ·split
     ·exact ih true
     ·rename_i h1 h2
      have h1':q2g c=false:=by simpa using h1
      have h2':(c==35)=false:=by simpa using h2
      simp only [Qe,gap,gapc,h1',h2',Qi,if_false]
   ·simp only [gapc]
    split
    ·exact ih false
    ·exact ih true
 exact H l false
theorem width_pos {l:List UInt8} (h:(scan l).err=0):1≤(scan l).width:=(qb4 l h).1
theorem width_le {l:List UInt8} (h:(scan l).err=0):(scan l).width≤l.length:=(qb4 l h).2
theorem lexAt_spec (f:Nat):∀ (out:List Tok) (off:Nat) (l:List UInt8),gap l=0→l.length<f→out.length+l.length≤5000 →
  (∃ ts,LexOk off l ts∧q4k f out off l=(out++ts,0,0))∨(∃ e a,LexErr off l e a∧q4k f out off l=([],e,(a:Int))):=by
 induction f with
 | zero=>intro out off l _ h;omega
 | succ f ih =>
  intro out off l hg hf ho;cases l with
  | nil=>exact .inl ⟨[],.done _ _ (by simp),by rw [qgd];simp⟩
  | cons c r =>
   have hd:(c::r).drop (gap (c::r))=c::r:=by rw [hg];rfl
   by_cases he:(scan (c::r)).err=0
   ·have hlen:(c::r).length=r.length+1:=rfl
    have hne:out.length≠5000:=by omega
    rw [qaj f out off c r he hne];have hw:=width_pos he;have hw2:=width_le he;have hg2:=q7j ((c::r).drop (scan (c::r)).width);rw [Q7] at hg2;have key:=ih (out++[(scan (c::r)).tok off]) (off+(scan (c::r)).width+gap ((c::r).drop (scan (c::r)).width)) (((c::r).drop (scan (c::r)).width).drop (gap ((c::r).drop (scan (c::r)).width)))
     (qca _) (by rw [Q7,Q7];omega) (by rw [Qn,Q7,Q7];simp only [QH];omega)
    have back:∀ (o:Nat) (m:List UInt8),(∀ ts,LexOk (o+gap m) (m.drop (gap m)) ts→LexOk o m ts)∧(∀ e a,LexErr (o+gap m) (m.drop (gap m)) e a→LexErr o m e a):=by
     intro o m;have hz:=qca m;have hdd:(m.drop (gap m)).drop (gap (m.drop (gap m)))=m.drop (gap m):=by rw [hz];rfl
     refine ⟨λts h=>?_,λe a h=>?_⟩
     ·cases h with
      | done _ _ h=>exact .done _ _ (by rwa [hdd] at h)
      | tok _ _ ts h he hr =>
       rw [hdd] at h he;rw [hdd,hz,Qf,Qh,Qg] at hr;rw [hdd,hz,Qh];exact .tok _ _ _ h he hr
     ·cases h with
      | here _ _ h he =>
       rw [hdd] at h he;rw [hdd,hz,Qh];exact .here _ _ h he
      | later _ _ _ _ h he hr =>
       rw [hdd] at h he;rw [hdd,hz,Qf,Qh,Qg] at hr;exact .later _ _ _ _ h he hr
    have hb:=back (off+(scan (c::r)).width) ((c::r).drop (scan (c::r)).width);have hne0:(c::r).drop (gap (c::r))≠[]:=by rw [hd];simp
    have he0:(scan ((c::r).drop (gap (c::r)))).err=0:=by rw [hd];exact he
    rcases key with ⟨ts,h1,h2⟩ | ⟨e,a,h1,h2⟩
    ·left
     refine ⟨(scan (c::r)).tok off::ts,?_,by rw [h2];simp⟩
     have h3:=LexOk.tok off (c::r) ts hne0 he0 (by rw [hd,hg];simpa using hb.1 ts h1)
     rw [hd,hg] at h3;exact h3
    ·right
     exact ⟨e,a,LexErr.later off (c::r) e a hne0 he0 (by rw [hd,hg];simpa using hb.2 e a h1),h2⟩
   ·right
    rw [qaa f out off c r he];refine ⟨_,_,?_,rfl⟩;have h3:=LexErr.here off (c::r) (by rw [hd];simp) (by rw [hd];exact he)
    rw [hd,hg] at h3;exact h3
theorem LexOk.back {o:Nat} {m:List UInt8} {ts:List Tok} (h:LexOk (o+gap m) (m.drop (gap m)) ts):LexOk o m ts:=by
 have hz:=qca m;have hdd:(m.drop (gap m)).drop (gap (m.drop (gap m)))=m.drop (gap m):=by rw [hz];rfl
 cases h with
 | done _ _ h=>exact .done _ _ (by rwa [hdd] at h)
 | tok _ _ ts h he hr =>
  rw [hdd] at h he;rw [hdd,hz,Qf,Qh,Qg] at hr;rw [hdd,hz,Qh];exact .tok _ _ _ h he hr
theorem LexErr.back {o:Nat} {m:List UInt8} {e:Int} {a:Nat} (h:LexErr (o+gap m) (m.drop (gap m)) e a):LexErr o m e a:=by
 have hz:=qca m;have hdd:(m.drop (gap m)).drop (gap (m.drop (gap m)))=m.drop (gap m):=by rw [hz];rfl
 cases h with
 | here _ _ h he =>
  rw [hdd] at h he;rw [hdd,hz,Qh];exact .here _ _ h he
 | later _ _ _ _ h he hr =>
  rw [hdd] at h he;rw [hdd,hz,Qf,Qh,Qg] at hr;exact .later _ _ _ _ h he hr
theorem qfx (l:List UInt8) (h:l.length≤5000):(∃ ts,LexOk 0 l ts∧lex l=(ts,0,0))∨(∃ e a,LexErr 0 l e a∧lex l=([],e,(a:Int))):=by
 unfold lex;rw [if_neg (by omega)]
 have hg:=q7j l;rcases lexAt_spec (l.length+1) [] (gap l) (l.drop (gap l)) (qca l) (by rw [Q7];omega) (by rw [Q7];simp;omega) with ⟨ts,h1,h2⟩ | ⟨e,a,h1,h2⟩
 ·exact .inl ⟨ts,LexOk.back (by rw [Qf];exact h1),by rw [h2];rfl⟩
 ·exact .inr ⟨e,a,LexErr.back (by rw [Qf];exact h1),h2⟩
theorem lex_ok {l:List UInt8} (h:l.length≤5000) {ts:List Tok} (hl:LexOk 0 l ts):lex l=(ts,0,0):=by
 rcases qfx l h with ⟨ts',h1,h2⟩ | ⟨e,a,h1,_⟩
 ·rw [h2,hl.det h1]
 ·exact (hl.not_err h1).elim
theorem qgo (p:UInt8→Bool) (l:List UInt8) (n:Nat) (h:span p l≤n):span p (l.take n)=span p l:=by
 induction l generalizing n with
 | nil=>simp
 | cons c r ih =>
  cases hc:p c
  ·rw [q63 hc]
   cases n with
   | zero=>rfl
   | succ n=>rw [Qa,q63 hc]
  ·rw [q51 hc] at h ⊢
   cases n with
   | zero=>omega
   | succ n=>rw [Qa,q51 hc,ih n (by omega)]
theorem clsAt_take (l:List UInt8) (n:Nat):q1w (l.take n)=q1w l∨q1w (l.take n)=0:=by
 cases n with
 | zero=>right;rfl
 | succ n=>cases l <;> left <;> rfl
theorem qew (l:List UInt8) (n m:Nat):(l.take n).drop m=(l.drop m).take (n-m):=List.drop_take
theorem scan_take (x:List UInt8) (n:Nat) (he:(scan x).err=0) (hn:(scan x).width≤n):scan (x.take n)=scan x:=by
 cases x with
 | nil=>simp
 | cons c r =>
  have hw:=width_pos he;cases n with
  | zero=>omega
  | succ n =>
   rw [Qa];revert he hn;clear hw;rw [scan,scan];by_cases h1:q17 c=true
   ·rw [if_pos h1,if_pos h1]
    simp only [];by_cases h24:24<span isWord r+1
    ·rw [if_pos h24];intro he;cases he
    ·rw [if_neg h24]
     intro _ hn;simp only [] at hn;rw [qgo isWord r n (by omega),if_neg h24,← Qa,QJ,QE (by omega)]
   rw [if_neg h1,if_neg h1];by_cases h2:isDigit c=true
   ·rw [if_pos h2,if_pos h2]
    simp only [];by_cases h13:(decide (13<span isDigit r+1)||q1w ((c::r).drop (span isDigit r+1))==3||q1w ((c::r).drop (span isDigit r+1))==5)=true
    ·rw [if_pos h13];intro he;cases he
    ·rw [if_neg h13]
     intro _ hn;simp only [] at hn;rw [qgo isDigit r n (by omega),← Qa,qew,QJ,QE (by omega),if_neg]
     intro hb;apply h13;simp only [Bool.or_eq_true,beq_iff_eq] at hb ⊢;rcases clsAt_take ((c::r).drop (span isDigit r+1)) (n+1-(span isDigit r+1)) with hc | hc
     ·rw [hc] at hb;exact hb
     ·rw [hc] at hb
      rcases hb with (hb | hb) | hb
      ·exact .inl (.inl hb)
      ·cases hb
      ·cases hb
   rw [if_neg h2,if_neg h2];by_cases h3:(c==34)=true
   ·rw [if_pos h3,if_pos h3]
    simp only [];by_cases hq:((r.drop (span q0p r)).head? == some 34)=true
    ·rw [if_pos hq]
     by_cases h4:400<span q0p r
     ·rw [if_pos h4];intro he;cases he
     ·rw [if_neg h4]
      intro _ hn;simp only [] at hn;have hd:(r.take n).drop (span q0p r)=(r.drop (span q0p r)).take (n-span q0p r):=qew _ _ _;have hh:((r.drop (span q0p r)).take (n-span q0p r)).head? = (r.drop (span q0p r)).head? := by
       cases hm:n-span q0p r with
       | zero=>omega
       | succ k=>cases r.drop (span q0p r) <;> rfl
      rw [qgo q0p r n (by omega),hd,hh,if_pos hq,if_neg h4,QJ,QE (by omega)]
    ·rw [if_neg hq];intro he;cases he
   rw [if_neg h3,if_neg h3];by_cases h5:((c==33||c==60||c==62)&&r.head? == some 61)=true
   ·rw [if_pos h5]
    intro _ hn;simp only [] at hn;have hh:(r.take n).head? = r.head? := by
     cases n with
     | zero=>omega
     | succ k=>cases r <;> rfl
    rw [hh,if_pos h5]
   ·rw [if_neg h5]
    by_cases h6:(c==60||c==62||q93 c)=true
    ·rw [if_pos h6]
     intro _ _;rw [if_neg];intro hb;apply h5;rw [Q9] at hb ⊢;refine ⟨hb.1,?_⟩;cases n with
     | zero=>cases hb.2
     | succ k=>cases r with
      | nil=>cases hb.2
      | cons d r=>exact hb.2
    ·rw [if_neg h6];intro he;cases he
theorem gapc_take (l:List UInt8):∀ (b:Bool) (n:Nat),gapc b (l.take n)=min n (gapc b l):=by
 induction l with
 | nil=>intro b n;cases b <;> simp [gapc]
 | cons c r ih =>
  intro b n;cases n with
  | zero=>cases b <;> simp [gapc]
  | succ n =>
   rw [Qa];cases b
   ·simp only [gapc]
    split
    ·rw [ih];omega
    ·split
     ·rw [ih];omega
     ·omega
   ·simp only [gapc]
    split
    ·rw [ih];omega
    ·rw [ih];omega
theorem gap_take (l:List UInt8) (n:Nat):gap (l.take n)=min n (gap l):=gapc_take l false n
end Lx
namespace Lx
theorem letter_gap (c:UInt8) (r:List UInt8) (h:q17 c=true):gap (c::r)=0:=by
 have H:∀ c:Fin 256,q17 (Qq c.val)=true→q2g (Qq c.val)=false∧(Qq c.val==35)=false:=by decide +kernel
 have h1:=H ⟨c.toNat,Qo c⟩;simp only [UInt8.ofNat_toNat] at h1;obtain ⟨h1,h2⟩:=h1 h;simp only [gap,gapc,h1,h2,Qi,if_false]
theorem span_whole (p:UInt8→Bool) (q:List UInt8) (hq:∀ b∈q,p b=true):span p q=q.length:=by
 induction q with
 | nil=>rfl
 | cons a q ih=>rw [q51 (hq a (by simp)),ih (λb hb=>hq b (by simp [hb]))];rfl
theorem qky (p:UInt8→Bool) (q:List UInt8) (h:span p q=q.length):∀ b∈q,p b=true:=by
 induction q with
 | nil=>simp
 | cons a q ih =>
  intro b hb;cases ha:p a
  ·rw [q63 ha] at h;simp at h
  ·rw [q51 ha] at h
   rcases QO.1 hb with rfl | hb
   ·exact ha
   ·exact ih (by simpa using h) b hb
theorem scan_kind1 (l:List UInt8) (he:(scan l).err=0) (hk:(scan l).kind=1):∃ c r,l=c::r∧q17 c=true∧span isWord r+1≤24∧(scan l).text=(c::r).take (span isWord r+1)∧(scan l).width=span isWord r+1:=by
 cases l with
 | nil=>cases he
 | cons c r =>
  cases h1:q17 c
  ·exfalso
   rw [scan,if_neg (by rw [h1];decide)] at he hk
   split at hk
   ·simp only [] at hk
    split at hk <;> cases hk
   ·split at hk
    ·simp only [] at hk
     split at hk
     ·split at hk <;> cases hk
     ·cases hk
    ·split at hk
     ·cases hk
     ·split at hk <;> cases hk
  ·rw [scan,if_pos h1] at he ⊢
   simp only [] at he ⊢;by_cases h24:24<span isWord r+1
   ·rw [if_pos h24] at he;cases he
   ·rw [if_neg h24] at he ⊢
    exact ⟨c,r,rfl,h1,by omega,rfl,rfl⟩
theorem lex_name (s:List UInt8) (hs:s.length≤5000) (hn:q0j s=true):lex s=([⟨1,0,0,s⟩],0,0):=by
 unfold q0j at hn;rw [Q9,Q9,Q9,decide_eq_true_eq,decide_eq_true_eq,Qz] at hn;obtain ⟨⟨h1,h2,h3⟩,h4⟩:=hn;cases s with
 | nil=>cases h4
 | cons c r =>
  simp only [] at h4;have hg:=letter_gap c r h4;have hsp:=span_whole isWord r (λb hb=>h1 b (by simp [hb]))
  have hsc:scan (c::r)=⟨0,1,0,c::r,(c::r).length⟩:=by
   rw [scan,if_pos h4];simp only [];rw [hsp,if_neg (by rw [Qd] at h3;omega),Qd,show r.length+1=(c::r).length from rfl,List.take_length]
  have hok:LexOk 0 (c::r) [⟨1,(0:Nat),0,c::r⟩]:=by
   have h:=LexOk.tok 0 (c::r) [] (by rw [hg];simp) (by rw [hg,Qe,hsc]) (by
    rw [hg,Qe,hsc];exact LexOk.done _ _ (by simp))
   rw [hg,Qe,hsc] at h;exact h
  exact lex_ok hs hok
theorem name_lex (s:List UInt8) (hs:s.length≤5000) {t:Tok} {e a:Int} (h:lex s=([t],e,a)) (he:e=0) (hk:t.kind=1) (ht:t.text=s):q0j s=true:=by
 rcases qfx s hs with ⟨ts,h1,h2⟩ | ⟨e',a',h1,h2⟩
 ·rw [h2] at h
  simp only [Prod.mk.injEq] at h;obtain ⟨rfl,_,_⟩:=h;cases h1 with
  | tok _ _ _ hne he' hr =>
   have hk':(scan (s.drop (gap s))).kind=1:=hk;have ht':(scan (s.drop (gap s))).text=s:=ht;obtain ⟨c,r,hd,hl,h24,h5,h6⟩:=scan_kind1 _ he' hk';rw [h5] at ht';have hlen:=congrArg QW ht';rw [QY] at hlen;have hdl:=congrArg QW hd;rw [Q7] at hdl;have hg:gap s=0:=by
    have:=q7j s
    have:(c::r).length≤s.length:=by omega
    omega
   rw [hg,Qe] at hd;have hsl:=qf8 isWord r;have hsp:span isWord r=r.length:=by
    rw [hd,Qd] at hlen;omega
   have hall:=qky isWord r hsp;have hlw:isWord c=true:=by unfold isWord;rw [hl];rfl
   rw [hd];unfold q0j;rw [Q9,Q9,Q9,decide_eq_true_eq,decide_eq_true_eq,Qz];refine ⟨⟨?_,by simp,?_⟩,hl⟩
   ·intro b hb
    rcases QO.1 hb with rfl | hb
    ·exact hlw
    ·exact hall b hb
   ·rw [Qd];omega
 ·rw [h2] at h
  simp at h
end Lx
end Go.Proofs.YtlmbfijhkcmncaaGreatDoor
namespace Go.Proofs.YtlmbfijhkcmncaaGreatDoor
open Go.RowKit
attribute [local go_sem] q12 q0q q0s
theorem qbs.has {w:World} {base:Nat} {A:Option Addr} {n c:Nat} {l:List Lx.Tok} (h:qbs w base (.slice A n c) l) (hl:0<l.length) :
  ∃ g,A=some ⟨g,0,none⟩∧g<w.heap.size∧∀ j u,(q43 l)[j]? = some u→w.cell? ⟨g,j,none⟩=some u:=by
 obtain ⟨h1,h2⟩:=h;rcases h2 with ⟨_,h2⟩ | ⟨g,cap,cur,hv,hb,hh,hc1,hc2,hc3,hc4⟩
 ·omega
 ·injection hv with hA hn hc
  subst hA;have hlt:g<w.heap.size:=Blk.lt (t:=89) (cs:=cur) hh;refine ⟨g,rfl,hlt,λj u hu=>?_⟩
  rw [cell_of_row w g j cur _ _ hh];rw [← hc4,QS] at hu;split at hu
  ·simpa using hu
  ·cases hu
set_option maxRecDepth 100000 in
set_option maxHeartbeats 1000000 in
theorem named_any (s:ByteArray) (w:World) (hs:s.size≤5000):Calls Tryz.prog 73 #[.string s] w λe w'=>e=.returned (.bool (Lx.q0j s.data.toList))∧Below w.heap.size w w':=by
 have hsl:s.data.toList.length≤5000:=by rw [← q0c];exact hs
 have hyes:=Lx.lex_name s.data.toList hsl;have hno:∀ (t:Lx.Tok) (e a:Int),Lx.lex s.data.toList=([t],e,a)→e=0→t.kind=1→t.text=s.data.toList→Lx.q0j s.data.toList=true:=λt e a=>Lx.name_lex s.data.toList hsl
 have HY:=Q0 hyes;have HN:=Q0 hno;clear hyes hno hsl
 go_enter Tryz.func73,Tryz.ntmps73
 go_wp2_with fail
 refine (lex_any s _ (by omega)).mono ?_
 rintro e w2 ⟨v,rfl,R2,hb2⟩;obtain ⟨A,c,rfl⟩:=q4a R2;have HB:=Q0 hb2;have HR:=Q0 R2;clear hb2 R2;generalize Lx.lex s.data.toList=L at *
 obtain ⟨l,er,a⟩:=L;simp only [] at HR;by_cases he:er=0
 ·have he':(er==0)=true:=by rw [beq_iff_eq];exact he
  match l with
  | [] =>
   have hn:Lx.q0j s.data.toList=false:=by
    cases h:Lx.q0j s.data.toList
    ·rfl
    ·have:=HY.out h;simp at this
   have HN2:=Q0 hn;clear hn he
   go_wp2
   go_ret
   exact ⟨q1j HN2.out.symm,HB.out⟩
  | t::u::r =>
   have hn:Lx.q0j s.data.toList=false:=by
    cases h:Lx.q0j s.data.toList
    ·rfl
    ·have:=HY.out h;simp at this
   have HN2:=Q0 hn;have hl1:(((t::u::r).length:Int)==1)=false:=by rw [beq_eq_false_iff_ne,Qd,Qd];omega
   generalize (t::u::r).length=m at *
   clear hn he
   go_wp2
   go_ret
   exact ⟨q1j HN2.out.symm,HB.out⟩
  | [t] =>
   obtain ⟨g,rfl,hg,hc⟩:=HR.out.has (by simp)
   have c0:w2.cell? ⟨g,0,none⟩=some (.int .i64 t.kind):=hc 0 _ rfl;have c3:w2.cell? ⟨g,3,none⟩=some (.string (bs t.text)):=hc 3 _ rfl;clear hc;by_cases hk:t.kind=1
   ·have hk':(t.kind==1)=true:=by rw [beq_iff_eq];exact hk
    by_cases ht:t.text=s.data.toList
    ·have hn:Lx.q0j s.data.toList=true:=HN.out _ _ _ rfl he hk ht
     have HN2:=Q0 hn;have hts:bs t.text=s:=by rw [ht];rfl
     rw [hts] at c3;clear hn he hk ht hts
     go_wp2
     go_ret
     exact ⟨q1j HN2.out.symm,HB.out⟩
    ·have hn:Lx.q0j s.data.toList=false:=by
      cases h:Lx.q0j s.data.toList
      ·rfl
      ·have:=HY.out h
       simp at this;exact absurd (by rw [this.1]) ht
     have HN2:=Q0 hn;have htx:((bs t.text).toList==s.toList)=false:=by
      rw [beq_eq_false_iff_ne,We,We,q2h];exact ht
     clear hn he hk ht
     go_wp2
     go_ret
     exact ⟨q1j HN2.out.symm,HB.out⟩
   ·have hk':(t.kind==1)=false:=by rw [beq_eq_false_iff_ne];exact hk
    have hn:Lx.q0j s.data.toList=false:=by
     cases h:Lx.q0j s.data.toList
     ·rfl
     ·have:=HY.out h
      simp at this;exact absurd (by rw [this.1]) hk
    have HN2:=Q0 hn;clear hn he hk
    go_wp2
    go_ret
    exact ⟨q1j HN2.out.symm,HB.out⟩
 ·have he':(er==0)=false:=by rw [beq_eq_false_iff_ne];exact he
  have hn:Lx.q0j s.data.toList=false:=by
   cases h:Lx.q0j s.data.toList
   ·rfl
   ·have:=HY.out h
    simp at this;exact absurd this.2.1 he
  have HN2:=Q0 hn;clear hn he
  go_wp2
  go_ret
  exact ⟨q1j HN2.out.symm,HB.out⟩
theorem qju (c:UInt8):Al.q1o c=(!(decide ((c.toNat:Int)<33))&&(!(decide ((126:Int)<c.toNat))&&!((c.toNat:Int)==34))):=by
 have h:=Lx.q3u (λc=>Al.q1o c==(!(decide ((c.toNat:Int)<33))&&(!(decide ((126:Int)<c.toNat))&&!((c.toNat:Int)==34)))) (by decide +kernel) c
 rwa [beq_iff_eq] at h
set_option maxRecDepth 100000 in
set_option maxHeartbeats 1000000 in
theorem printed_any (s:ByteArray) (w:World) (hs:s.size≤4611686018427387904):Calls Tryz.prog 74 #[.string s] w λe w'=>e=.returned (.bool (Al.q1f s.data.toList))∧w'=w:=by
 go_enter Tryz.func74,Tryz.ntmps74
 go_wp2
 go_loop [3] (λi=>∃ k:Nat,k≤s.size∧i=.int .i64 k∧s.data.toList.all Al.q1o=(s.data.toList.drop k).all Al.q1o) (λi=>s.size-(intOf i).toNat)
 case atStart=>exact ⟨0,by omega,rfl,rfl⟩
 case round =>
  obtain ⟨k,hk,rfl,hc⟩:=hrel;have HC:=Q0 hc;clear hc;by_cases hlt:k<s.size
  ·have hd:=q10 s k hlt
   have HD:=Q0 hd;clear hd;have hb:s[k].toNat<256:=Qo s[k];have hob:=qju s[k];by_cases h1:(s[k].toNat:Int)<33
   ·have hf:Al.q1f s.data.toList=false:=by
     unfold Al.q1f;rw [HC.out,HD.out,Qm,hob,decide_eq_true h1];rfl
    have HF:=Q0 hf;clear hf hob
    go_wp2
    go_ret
    exact ⟨q1j HF.out.symm,rfl⟩
   ·by_cases h2:(126:Int)<s[k].toNat
    ·have hf:Al.q1f s.data.toList=false:=by
      unfold Al.q1f;rw [HC.out,HD.out,Qm,hob,decide_eq_true h2,decide_eq_false h1];rfl
     have HF:=Q0 hf;clear hf hob
     go_wp2
     go_ret
     exact ⟨q1j HF.out.symm,rfl⟩
    ·cases h3:((s[k].toNat:Int)==34)
     ·have ho:Al.q1o s[k]=true:=by
       rw [hob,decide_eq_false h2,decide_eq_false h1,h3];rfl
      have HO:=Q0 ho;clear ho hob
      go_wp2
      go_round
      case rel =>
       refine ⟨k+1,by omega,by go_num,?_⟩
       rw [HC.out,HD.out,Qm,HO.out];rfl
      case measure=>simp [intOf];omega
     ·have hf:Al.q1f s.data.toList=false:=by
       unfold Al.q1f;rw [HC.out,HD.out,Qm,hob,decide_eq_false h2,decide_eq_false h1,h3];rfl
      have HF:=Q0 hf;clear hf hob
      go_wp2
      go_ret
      exact ⟨q1j HF.out.symm,rfl⟩
  ·have hall:s.data.toList.all Al.q1o=true:=by
    rw [HC.out,Qb (by rw [← q0c];omega)]
    rfl
   have hf:Al.q1f s.data.toList=(decide (1≤s.size)&&decide (s.size≤3)):=by
    unfold Al.q1f;rw [hall,← q0c];rfl
   have HF:=Q0 hf;clear hf hall HC;by_cases h1:1≤s.size
   ·by_cases h3:s.size≤3
    ·have hf:=HF.out
     rw [decide_eq_true h1,decide_eq_true h3] at hf;have HF2:=Q0 hf;clear hf
     go_wp2
     go_ret
     exact ⟨q1j ((decide_eq_true (by omega)).trans HF2.out.symm),rfl⟩
    ·have hf:=HF.out
     rw [decide_eq_true h1,decide_eq_false h3] at hf;have HF2:=Q0 hf;clear hf
     go_wp2
     go_ret
     exact ⟨q1j ((decide_eq_false (by omega)).trans HF2.out.symm),rfl⟩
   ·have hf:=HF.out
    rw [decide_eq_false h1] at hf;have HF2:=Q0 hf;clear hf
    go_wp2
    go_ret
    exact ⟨q1j HF2.out.symm,rfl⟩
end Go.Proofs.YtlmbfijhkcmncaaGreatDoor

/-
  Several texts in one: LexNext, LexNext2, LexClasses, LexNew, LexLex, ZnC, ZnM, ZnD.
-/
import Derived.Test.YtnpkpehlncnkgaaGreatDoorPN
import Derived.WalkSmall
import Derived.Lib.SmallJoins
import Derived.Deep.WholeRow
namespace Go.Proofs.YtnpkpehlncnkgaaGreatDoor
open Go.RowKit
attribute [local go_sem] q65 q58 q5k
namespace Lx
theorem q5t (P:UInt8→Bool) (h:∀ c:Fin 256,P (UInt8.ofNat c.val)=true) (c:UInt8):P c=true:=by
 have h1:=h ⟨c.toNat,UInt8.toNat_lt c⟩
 simpa using h1
theorem q51 (c:UInt8):q1w c=(cls c==3):=by
 simpa using q5t (λc=>q1w c==(cls c==3)) (by decide +kernel) c
theorem q4y (c:UInt8):isDigit c=(cls c==4):=by
 simpa using q5t (λc=>isDigit c==(cls c==4)) (by decide +kernel) c
theorem q9n (c:UInt8):(c==34)=(cls c==6):=by
 simpa using q5t (λc=>(c==34)==(cls c==6)) (by decide +kernel) c
theorem qek (c:UInt8):(c==33)=(cls c==7):=by
 simpa using q5t (λc=>(c==33)==(cls c==7)) (by decide +kernel) c
theorem qbs (c:UInt8):(c==60||c==62)=(cls c==8):=by
 have h:=q5t (λc=>(c==60||c==62)==(cls c==8)) (by decide +kernel) c
 rwa [beq_iff_eq] at h
theorem cls_sym (c:UInt8):isSym c=(cls c==9):=by
 simpa using q5t (λc=>isSym c==(cls c==9)) (by decide +kernel) c
theorem cls_word (c:UInt8):isWord c=(cls c==3||cls c==4||cls c==5):=by
 have h:=q5t (λc=>isWord c==(cls c==3||cls c==4||cls c==5)) (by decide +kernel) c
 rwa [beq_iff_eq] at h
theorem scan_letter (c:UInt8) (r:List UInt8) (h:cls c=3) :
  scan (c::r)=if 24<span isWord (c::r) then bad 2 else ⟨0,1,0,(c::r).take (span isWord (c::r)),span isWord (c::r)⟩:=by
 have h1:q1w c=true:=by rw [q51,h];rfl
 have h2:isWord c=true:=by rw [cls_word,h];rfl
 rw [q40 h2,scan,if_pos h1]
theorem scan_digit (c:UInt8) (r:List UInt8) (h:cls c=4) :
  scan (c::r)=if 13<span isDigit (c::r)||q1s ((c::r).drop (span isDigit (c::r)))==3||q1s ((c::r).drop (span isDigit (c::r)))==5 then bad 4
   else ⟨0,2,qcg ((c::r).take (span isDigit (c::r))),(c::r).take (span isDigit (c::r)),span isDigit (c::r)⟩:=by
 have h1:q1w c=false:=by rw [q51,h];rfl
 have h2:isDigit c=true:=by rw [q4y,h];rfl
 rw [q40 h2,scan,if_neg (by rw [h1];decide),if_pos h2]
theorem scan_quote (c:UInt8) (r:List UInt8) (h:cls c=6) :
  scan (c::r)=if (r.drop (span q2v r)).head? == some 34 then (if 400<span q2v r then bad 2 else ⟨0,3,0,r.take (span q2v r),span q2v r+2⟩) else bad 6:=by
 have h1:q1w c=false:=by rw [q51,h];rfl
 have h2:isDigit c=false:=by rw [q4y,h];rfl
 have h3:(c==34)=true:=by rw [q9n,h];rfl
 rw [scan,if_neg (by rw [h1];decide),if_neg (by rw [h2];decide),if_pos h3]
theorem scan_mark (c:UInt8) (r:List UInt8) (h:cls c=7):scan (c::r)=if r.head? == some 61 then ⟨0,4,0,[c,61],2⟩ else bad 3:=by
 have h1:q1w c=false:=by rw [q51,h];rfl
 have h2:isDigit c=false:=by rw [q4y,h];rfl
 have h3:(c==34)=false:=by rw [q9n,h];rfl
 have h4:(c==33)=true:=by rw [qek,h];rfl
 have h5:(c==60||c==62)=false:=by rw [qbs,h];rfl
 have h6:isSym c=false:=by rw [cls_sym,h];rfl
 rw [scan,if_neg (by rw [h1];decide),if_neg (by rw [h2];decide),if_neg (by rw [h3];decide)]
 simp only [h4,h5,h6,Bool.true_or,Bool.true_and,Bool.or_self,Bool.false_eq_true,if_false]
theorem scan_angle (c:UInt8) (r:List UInt8) (h:cls c=8):scan (c::r)=if r.head? == some 61 then ⟨0,4,0,[c,61],2⟩ else ⟨0,4,0,[c],1⟩:=by
 have h1:q1w c=false:=by rw [q51,h];rfl
 have h2:isDigit c=false:=by rw [q4y,h];rfl
 have h3:(c==34)=false:=by rw [q9n,h];rfl
 have h4:(c==33)=false:=by rw [qek,h];rfl
 have h5:(c==60||c==62)=true:=by rw [qbs,h];rfl
 rw [scan,if_neg (by rw [h1];decide),if_neg (by rw [h2];decide),if_neg (by rw [h3];decide)]
 simp only [h4,h5,Bool.false_or,Bool.true_or,Bool.true_and,if_true]
theorem scan_sym (c:UInt8) (r:List UInt8) (h:cls c=9):scan (c::r)=⟨0,4,0,[c],1⟩:=by
 have h1:q1w c=false:=by rw [q51,h];rfl
 have h2:isDigit c=false:=by rw [q4y,h];rfl
 have h3:(c==34)=false:=by rw [q9n,h];rfl
 have h4:(c==33)=false:=by rw [qek,h];rfl
 have h5:(c==60||c==62)=false:=by rw [qbs,h];rfl
 have h6:isSym c=true:=by rw [cls_sym,h];rfl
 rw [scan,if_neg (by rw [h1];decide),if_neg (by rw [h2];decide),if_neg (by rw [h3];decide)]
 simp only [h4,h5,h6,Bool.false_or,Bool.false_and,Bool.false_eq_true,if_false,if_true]
theorem scan_other (c:UInt8) (r:List UInt8) (h3:cls c≠3) (h4:cls c≠4) (h6:cls c≠6) (h7:cls c≠7) (h8:cls c≠8) (h9:cls c≠9):scan (c::r)=bad 3:=by
 have e1:q1w c=false:=by rw [q51];simpa using h3
 have e2:isDigit c=false:=by rw [q4y];simpa using h4
 have e3:(c==34)=false:=by rw [q9n];simpa using h6
 have e4:(c==33)=false:=by rw [qek];simpa using h7
 have e5:(c==60||c==62)=false:=by rw [qbs];simpa using h8
 have e6:isSym c=false:=by rw [cls_sym];simpa using h9
 rw [scan,if_neg (by rw [e1];decide),if_neg (by rw [e2];decide),if_neg (by rw [e3];decide)]
 simp only [e4,e5,e6,Bool.false_or,Bool.false_and,Bool.false_eq_true,if_false]
theorem qk3 (l:List UInt8) (h:∀ c∈l,isDigit c=true):∀ a,Lib.decFrom a l=some (l.foldl (λa c=>10*a+(c.toNat-48)) a):=by
 induction l with
 | nil=>intro a;rfl
 | cons c r ih =>
  intro a;have hc:isDigit c=true:=h c (by simp)
  have hd:Lib.digitVal c=some (c.toNat-48):=by
   unfold isDigit at hc;rw [Bool.and_eq_true] at hc;have h1:48≤c:=of_decide_eq_true hc.1;have h2:c≤57:=of_decide_eq_true hc.2;have h1':48≤c.toNat:=h1;have h2':c.toNat≤57:=h2;unfold Lib.digitVal;rw [if_pos ⟨h1',h2'⟩]
  unfold Lib.decFrom;rw [hd];simp only [List.foldl_cons];rw [ih (λc hc=>h c (by simp [hc])),Nat.mul_comm]
theorem atoi_digits (l:List UInt8) (h:∀ c∈l,isDigit c=true) (hl:l≠[]):Lib.atoi l=some ((qcg l:Nat):Int):=by
 cases l with
 | nil=>exact absurd rfl hl
 | cons c r =>
  have hc:isDigit c=true:=h c (by simp)
  have h45:(c==45)=false:=by
   by_cases he:c=45
   ·subst he;exact absurd hc (by decide)
   ·simpa using he
  have h43:(c==43)=false:=by
   by_cases he:c=43
   ·subst he;exact absurd hc (by decide)
   ·simpa using he
  simp only [Lib.atoi];rw [if_neg (by rw [h45];decide),if_neg (by rw [h43];decide)]
  unfold Lib.decNat;rw [if_neg (by simp),qk3 _ h]
  rfl
theorem take_span (p:UInt8→Bool) (l:List UInt8):∀ c∈l.take (span p l),p c=true:=by
 induction l with
 | nil=>intro c hc;simp at hc
 | cons d r ih =>
  intro c hc;cases hd:p d
  ·rw [q76 hd] at hc;simp at hc
  ·rw [q40 hd,List.take_succ_cons] at hc
   rcases List.mem_cons.1 hc with rfl | hc
   ·exact hd
   ·exact ih c hc
theorem decVal_lt (l:List UInt8) (h:∀ c∈l,isDigit c=true):qcg l<10 ^ l.length:=by
 have H:∀ (l:List UInt8),(∀ c∈l,isDigit c=true)→∀ a,l.foldl (λa c=>10*a+(c.toNat-48)) a<(a+1)*10 ^ l.length:=by
  intro l
  induction l with
  | nil=>intro _ a;simp
  | cons c r ih =>
   intro h a;have hc:isDigit c=true:=h c (by simp)
   have h2':c.toNat≤57:=by
    unfold isDigit at hc;rw [Bool.and_eq_true] at hc;exact of_decide_eq_true hc.2
   simp only [List.foldl_cons,List.length_cons];have:=ih (λc hc=>h c (by simp [hc])) (10*a+(c.toNat-48))
   calc _<(10*a+(c.toNat-48)+1)*10 ^ r.length:=this
    _≤((a+1)*10)*10 ^ r.length:=Nat.mul_le_mul_right _ (by omega)
    _=(a+1)*10 ^ (r.length+1):=by rw [Nat.pow_succ,Nat.mul_assoc,Nat.mul_comm 10]
 have:=H l h 0
 simpa [qcg] using this
theorem indexAny_in (l:List UInt8):(Lib.indexAny l [34,10]<0→(l.drop (span q2v l)).head? = none) ∧
  (0≤Lib.indexAny l [34,10]→span q2v l=(Lib.indexAny l [34,10]).toNat∧span q2v l<l.length∧(l[span q2v l]? = some 34∨l[span q2v l]? = some 10)):=by
 induction l with
 | nil=>exact ⟨λ_=>rfl,λh=>absurd h (by decide)⟩
 | cons c r ih =>
  have hge:=Lib.indexAny_ge [34,10] r;unfold Lib.indexAny;cases hc:q2v c
  ·have hcon:([34,10]:List UInt8).contains c=true:=by
    have h1:∀ c:UInt8,([34,10]:List UInt8).contains c=!q2v c:=λc=>by
     have h:=q5t (λc=>([34,10]:List UInt8).contains c==!q2v c) (by decide +kernel) c
     rwa [beq_iff_eq] at h
    rw [h1,hc];rfl
   rw [if_pos hcon,q76 hc];refine ⟨λh=>absurd h (by decide),λ_=>⟨rfl,by simp,?_⟩⟩
   have:c=34∨c=10:=by simpa using hcon
   rcases this with rfl | rfl
   ·exact .inl rfl
   ·exact .inr rfl
  ·have hcon:([34,10]:List UInt8).contains c=false:=by
    have h1:∀ c:UInt8,([34,10]:List UInt8).contains c=!q2v c:=λc=>by
     have h:=q5t (λc=>([34,10]:List UInt8).contains c==!q2v c) (by decide +kernel) c
     rwa [beq_iff_eq] at h
    rw [h1,hc];rfl
   rw [if_neg (by rw [hcon];decide),q40 hc]
   by_cases hr:(Lib.indexAny r [34,10]==-1)=true
   ·rw [if_pos hr]
    have hr':Lib.indexAny r [34,10]=-1:=by simpa using hr
    exact ⟨λ_=>ih.1 (by omega),λh=>absurd h (by decide)⟩
   ·rw [if_neg hr]
    have hr':Lib.indexAny r [34,10]≠-1:=by simpa using hr
    refine ⟨λh=>by omega,λ_=>?_⟩
    obtain ⟨h1,h2,h3⟩:=ih.2 (by omega)
    refine ⟨by omega,by simpa using h2,by simpa using h3⟩
def Sc.out (r:Sc) (off:Nat):Value:=.agg #[.int .i64 r.kind,.int .i64 (if r.err=0 then (off:Int) else 0),.int .i64 r.n,.string (bs r.text)]
def Sc.fin (r:Sc) (off:Nat):Int:=if r.err=0 then (off+r.width:Nat) else 0
end Lx
theorem among_word:among [3,4,5]=Lx.isWord:=by
 funext c
 rw [Lx.cls_word];have h:∀ n:Nat,([3,4,5]:List Int).contains (n:Int)=(n==3||n==4||n==5):=by
  intro n;rw [Bool.eq_iff_iff];simp;omega
 exact h _
theorem among_digit:among [4]=Lx.isDigit:=by
 funext c
 rw [Lx.q4y];have h:∀ n:Nat,([4]:List Int).contains (n:Int)=(n==4):=by
  intro n;rw [Bool.eq_iff_iff];simp;omega
 exact h _
theorem qkk (w:World) (bk:Nat) (hbk:bk=w.heap.size) (x y z:Int) (t:TypeId):∀ j,j<[x,y,z].length→(w.alloc (.cells #[.int .i64 x,.int .i64 y,.int .i64 z] t)).cell? ⟨bk,0+j,none⟩=some (.int .i64 ([x,y,z].getD j 0)):=by
 intro j hj;subst hbk
 match j,hj with
 | 0,_=>simp [World.cell?_alloc_at]
 | 1,_=>simp [World.cell?_alloc_at]
 | 2,_=>simp [World.cell?_alloc_at]
set_option maxRecDepth 100000 in
set_option maxHeartbeats 1000000 in
theorem next_letter (b:Nat) (s:ByteArray) (i:Nat) (w:World) (hs:s.size≤20000) (hi:i<s.size) (hb:b<w.heap.size) (h:Scan w b s) (hc:Lx.cls s[i]=3) :
  Calls Tryz.prog 78 #[.pointer (some ⟨b,0,none⟩),.int .i64 i] w λe w' =>
   e=.returned (.tuple #[(Lx.scan (s.data.toList.drop i)).out i,.int .i64 ((Lx.scan (s.data.toList.drop i)).fin i),.int .i64 (Lx.scan (s.data.toList.drop i)).err])∧Below w.heap.size w w':=by
 have hsc:=Lx.scan_letter s[i] (s.data.toList.drop (i+1)) hc;have hd:=q1r s i hi;rw [← hd] at hsc;have HSC:=Lib.hid hsc;clear hsc;have hle:=qgl Lx.isWord (s.data.toList.drop i);rw [List.length_drop,← q0l] at hle;have hc0:Lx.q1s (s.data.toList.drop i)=3:=by rw [hd];exact hc
 have HC:=Lib.hid hc0;clear hc hc0 hd;have h0:=h.text
 go_enter Tryz.func78,Tryz.ntmps78
 go_wp2_with fail
 refine (q56 b s i _ (by omega) (by omega) (by exact h.alloc hb _)).mono ?_
 rintro e w' ⟨rfl,m1,rfl⟩;rw [Int.toNat_natCast,HC.out]
 go_wp2_with fail
 refine (qbn b s i _ 3 3 [3,4,5] _ (by omega) (by omega) (by exact ((h.alloc hb _).drewN m1).alloc (by simp;omega) _) rfl (by omega) (by omega) (by exact qkk _ _ (by simp) 3 4 5 _)).mono ?_
 rintro e w' ⟨rfl,m2,rfl⟩;rw [among_word];generalize Lx.span Lx.isWord (s.data.toList.drop i)=m at *
 by_cases hm:24<m
 ·go_wp2
  refine bodyPost_ret (v:=.tuple #[.agg #[.int .i64 0,.int .i64 0,.int .i64 0,.string { data:=#[] }],.int .i64 0,.int .i64 2]) (by simp [results,Tryz.results78,go_sem]) rfl ⟨?_,?_⟩
  ·rw [HSC.out,if_pos hm];rfl
  ·exact q2k (q0c (q0c (q06 w) _) _) _
 ·have hx:=q3j s i (i+m)
  rw [Nat.add_sub_cancel_left] at hx
  go_wp2
  refine bodyPost_ret (v:=.tuple #[.agg #[.int .i64 1,.int .i64 i,.int .i64 0,.string (bs ((s.data.toList.drop i).take m))],.int .i64 (i+m:Nat),.int .i64 0]) ?_ rfl ⟨?_,?_⟩
  ·simp [results,Tryz.results78,go_sem]
  ·rw [HSC.out,if_neg hm];rfl
  ·exact q2k (q0c (q0c (q06 w) _) _) _
theorem atoi_any (l:List UInt8) (w:World) (hl:l.length≤18) {n:Int} (h:Lib.atoi l=some n) :
  Calls Tryz.prog 109 #[.string (bs l)] w λe w'=>e=.returned (.tuple #[.int .i64 n,.nilIface])∧Below w.heap.size w w':=by
 refine (Tryz.strconv_Atoi (bs l) n (by rw [bs_size];exact hl) (by rw [bs_list];exact h) w).mono ?_
 rintro e w' ⟨rfl,t,rfl⟩;exact ⟨rfl,Joins.below_bytesWorld _ w _ t (Nat.le_refl _)⟩
set_option maxRecDepth 100000 in
set_option maxHeartbeats 2000000 in
theorem next_digit (b:Nat) (s:ByteArray) (i:Nat) (w:World) (hs:s.size≤20000) (hi:i<s.size) (hb:b<w.heap.size) (h:Scan w b s) (hc:Lx.cls s[i]=4) :
  Calls Tryz.prog 78 #[.pointer (some ⟨b,0,none⟩),.int .i64 i] w λe w' =>
   e=.returned (.tuple #[(Lx.scan (s.data.toList.drop i)).out i,.int .i64 ((Lx.scan (s.data.toList.drop i)).fin i),.int .i64 (Lx.scan (s.data.toList.drop i)).err])∧Below w.heap.size w w':=by
 have hsc:=Lx.scan_digit s[i] (s.data.toList.drop (i+1)) hc;have hd:=q1r s i hi;have hp:Lx.isDigit s[i]=true:=by rw [Lx.q4y,hc];rfl
 have hpos:1≤Lx.span Lx.isDigit (s.data.toList.drop i):=by rw [hd,q40 hp];omega
 rw [← hd] at hsc;rw [List.drop_drop] at hsc;have HSC:=Lib.hid hsc;clear hsc;have hle:=qgl Lx.isDigit (s.data.toList.drop i);rw [List.length_drop,← q0l] at hle;have hc0:Lx.q1s (s.data.toList.drop i)=4:=by rw [hd];exact hc
 have HC:=Lib.hid hc0;have hdig:=Lx.take_span Lx.isDigit (s.data.toList.drop i);have HDIG:=Lib.hid hdig;clear hc hc0 hd hdig hp;have h0:=h.text
 go_enter Tryz.func78,Tryz.ntmps78
 go_wp2_with fail
 refine (q56 b s i _ (by omega) (by omega) (by exact h.alloc hb _)).mono ?_
 rintro e w' ⟨rfl,m1,rfl⟩;rw [Int.toNat_natCast,HC.out]
 go_wp2_with fail
 refine (qbn b s i _ 1 1 [4] _ (by omega) (by omega) (by exact ((h.alloc hb _).alloc (by simp;omega) _).drewN m1) rfl (by omega) (by omega) (by exact qg8 _ _ (by simp) 4 _)).mono ?_
 rintro e w' ⟨rfl,m2,rfl⟩;rw [among_digit];generalize Lx.span Lx.isDigit (s.data.toList.drop i)=m at *
 go_wp2_with fail
 refine (q56 b s (i+m) _ (by omega) (by omega) (by exact ((h.alloc hb _).alloc (by simp;omega) _).drewN _)).mono ?_
 rintro e w' ⟨rfl,m3,rfl⟩;rw [show ((i:Int)+(m:Int)).toNat=i+m from by omega]
 generalize Lx.q1s (s.data.toList.drop (i+m))=c2 at *
 by_cases hm:13<m∨c2=3∨c2=5
 ·have hbad:(13<(m:Int))∨((c2:Int)==3)=true∨((c2:Int)==5)=true:=by
   rcases hm with hm | rfl | rfl
   ·left;omega
   ·right;left;rfl
   ·right;right;rfl
  have hsb:Lx.scan (s.data.toList.drop i)=Lx.bad 4:=by
   rw [HSC.out,if_pos];rcases hm with hm | rfl | rfl
   ·simp [hm]
   ·simp
   ·simp
  have HSB:=Lib.hid hsb;clear hsb hm HSC;have fin:∀ X:World,Below w.heap.size w X→(Ending.returned (.tuple #[.agg #[.int .i64 0,.int .i64 0,.int .i64 0,.string { data:=#[] }],.int .i64 0,.int .i64 4])=.returned (.tuple #[(Lx.scan (s.data.toList.drop i)).out i,.int .i64 ((Lx.scan (s.data.toList.drop i)).fin i),.int .i64 (Lx.scan (s.data.toList.drop i)).err]))∧Below w.heap.size w X:=λX hX=>⟨by rw [HSB.out];rfl,hX⟩
  have FIN:=Lib.hid fin;clear fin;by_cases h13:13<m
  ·clear hbad
   go_wp2
   refine bodyPost_ret (v:=.tuple #[.agg #[.int .i64 0,.int .i64 0,.int .i64 0,.string { data:=#[] }],.int .i64 0,.int .i64 4]) (by simp [results,Tryz.results78,go_sem]) rfl (FIN.out _ ?_)
   exact q2k (q0c (q0c (q06 w) _) _) _
  ·cases h3:((c2:Int)==3)
   ·have h5:((c2:Int)==5)=true:=by
     rcases hbad with hb' | hb' | hb'
     ·omega
     ·rw [h3] at hb';cases hb'
     ·exact hb'
    clear hbad
    go_wp2
    refine bodyPost_ret (v:=.tuple #[.agg #[.int .i64 0,.int .i64 0,.int .i64 0,.string { data:=#[] }],.int .i64 0,.int .i64 4]) (by simp [results,Tryz.results78,go_sem]) rfl (FIN.out _ ?_)
    exact q2k (q0c (q0c (q06 w) _) _) _
   ·clear hbad
    go_wp2
    refine bodyPost_ret (v:=.tuple #[.agg #[.int .i64 0,.int .i64 0,.int .i64 0,.string { data:=#[] }],.int .i64 0,.int .i64 4]) (by simp [results,Tryz.results78,go_sem]) rfl (FIN.out _ ?_)
    exact q2k (q0c (q0c (q06 w) _) _) _
 ·have h13:m≤13:=by omega
  have h3:((c2:Int)==3)=false:=by rw [beq_eq_false_iff_ne];omega
  have h5:((c2:Int)==5)=false:=by rw [beq_eq_false_iff_ne];omega
  have hn13:(13<m)=False:=by simp;omega
  have hsc:=HSC.out;have h3':(c2==3)=false:=by rw [beq_eq_false_iff_ne];omega
  have h5':(c2==5)=false:=by rw [beq_eq_false_iff_ne];omega
  rw [if_neg (by rw [h3',h5'];simp;omega)] at hsc
  clear HSC hm h3' h5' hn13;have HSC:=Lib.hid hsc;clear hsc;have hx:=q3j s i (i+m);rw [Nat.add_sub_cancel_left] at hx;have hlen:((s.data.toList.drop i).take m).length=m:=by
   rw [List.length_take,List.length_drop,← q0l];omega
  have hat:=Lx.atoi_digits ((s.data.toList.drop i).take m) HDIG.out (by intro h;rw [h] at hlen;simp at hlen;omega)
  have hlt:=Lx.decVal_lt _ HDIG.out;rw [hlen] at hlt;have HAT:=Lib.hid hat;clear hat
  go_wp2_with fail
  refine (atoi_any ((s.data.toList.drop i).take m) _ (by rw [hlen];omega) HAT.out).mono ?_
  rintro e w3 ⟨rfl,hb3⟩;have hS3:Scan w3 b s:=(((h.alloc hb _).alloc (by simp;omega) _).drewN _).below hb3 (by simp;omega)
  have hbelow:Below w.heap.size w w3:=q9l (q2k (q0c (q0c (q06 w) _) _) _) hb3;have hblk:Blk w3 w.heap.size 67 #[.int .i64 0,.int .i64 0,.int .i64 0,.string { data:=#[] }] :=
   (((Blk.new w _ _).alloc _).drewN _).bel hb3
  have t0:=hS3.text;have k0:=hblk.cell 0;have k1:=hblk.cell 1;have k2:=hblk.cell 2;have k3:=hblk.cell 3;have f0:=hblk.frozen 0;have f1:=hblk.frozen 1;have f2:=hblk.frozen 2;have f3:=hblk.frozen 3;have HB:=Lib.hid hbelow;have HBLK:=Lib.hid hblk;clear hb3 hbelow hblk hS3;generalize Lx.qcg ((s.data.toList.drop i).take m)=v at *
  go_wp2
  refine bodyPost_ret (q14 rfl _ _ w.heap.size 67 _ _ rfl ((((HBLK.out.set_ 0 _).set_ 1 _).set_ 2 _).set_ 3 _) Tryz.underlying67 rfl (by kernel_rfl)) rfl ⟨?_,?_⟩
  ·rw [HSC.out];rfl
  ·exact q1t (q1t (q1t (q1t HB.out (Nat.le_refl _) _) (Nat.le_refl _) _) (Nat.le_refl _) _) (Nat.le_refl _) _
end Go.Proofs.YtnpkpehlncnkgaaGreatDoor
namespace Go.Proofs.YtnpkpehlncnkgaaGreatDoor
open Go.RowKit
attribute [local go_sem] q65 q58 q5k
theorem tok_block (w:World) (m:Nat) (w3:World) (hb3:Below (((w.alloc (.cells #[.int .i64 0,.int .i64 0,.int .i64 0,.string { data:=#[] }] 67)).drewN m).heap.size) ((w.alloc (.cells #[.int .i64 0,.int .i64 0,.int .i64 0,.string { data:=#[] }] 67)).drewN m) w3) :
  Below w.heap.size w w3∧Blk w3 w.heap.size 67 #[.int .i64 0,.int .i64 0,.int .i64 0,.string { data:=#[] }] :=
 ⟨q9l (q2k (q0c (q06 w) _) _) hb3,((Blk.new w _ _).drewN _).bel hb3⟩
set_option maxRecDepth 100000 in
set_option maxHeartbeats 2000000 in
theorem next_quote (b:Nat) (s:ByteArray) (i:Nat) (w:World) (hs:s.size≤20000) (hi:i<s.size) (hb:b<w.heap.size) (h:Scan w b s) (hc:Lx.cls s[i]=6) :
  Calls Tryz.prog 78 #[.pointer (some ⟨b,0,none⟩),.int .i64 i] w λe w' =>
   e=.returned (.tuple #[(Lx.scan (s.data.toList.drop i)).out i,.int .i64 ((Lx.scan (s.data.toList.drop i)).fin i),.int .i64 (Lx.scan (s.data.toList.drop i)).err])∧Below w.heap.size w w':=by
 have hsc:=Lx.scan_quote s[i] (s.data.toList.drop (i+1)) hc;have hd:=q1r s i hi;rw [← hd] at hsc;have hc0:Lx.q1s (s.data.toList.drop i)=6:=by rw [hd];exact hc
 have HC:=Lib.hid hc0;clear hc hc0 hd;have h0:=h.text;obtain ⟨R,hR⟩:∃ R,s.extract (i+1) s.size=R:=⟨_,rfl⟩;have hRl:R.data.toList=s.data.toList.drop (i+1):=by
  rw [← hR,Lib.extract_data];exact List.take_of_length_le (by rw [List.length_drop,← q0l];exact Nat.le_refl _)
 have hRs:R.size=s.size-(i+1):=by rw [q0l,hRl,List.length_drop,← q0l]
 have hRs':R.size≤20000:=by omega
 rw [← hRl] at hsc;have HSC:=Lib.hid hsc;clear hsc;have HRS:=Lib.hid hRs;clear hRs;obtain ⟨hin1,hin2⟩:=Lx.indexAny_in R.data.toList;have HIN1:=Lib.hid hin1;have HIN2:=Lib.hid hin2;clear hin1 hin2 hRl;have hge:=Lib.indexAny_ge [34,10] R.data.toList
 go_enter Tryz.func78,Tryz.ntmps78
 go_wp2_with fail
 refine (q56 b s i _ (by omega) (by omega) (by exact h.alloc hb _)).mono ?_
 rintro e w' ⟨rfl,m1,rfl⟩;rw [Int.toNat_natCast,HC.out]
 go_wp2_with fail
 refine (qk2 R _ (by omega)).mono ?_
 rintro e w3 ⟨rfl,hb3⟩;have hS3:Scan w3 b s:=((h.alloc hb _).drewN _).below hb3 (by simp;omega)
 obtain ⟨hbelow,hblk⟩:=tok_block w m1 w3 hb3;have t0:=hS3.text;have k0:=hblk.cell 0;have k1:=hblk.cell 1;have k2:=hblk.cell 2;have k3:=hblk.cell 3;have f0:=hblk.frozen 0;have f1:=hblk.frozen 1;have f2:=hblk.frozen 2;have f3:=hblk.frozen 3;have HB:=Lib.hid hbelow;have HBLK:=Lib.hid hblk;clear hb3 hbelow hblk hS3;by_cases hneg:Lib.indexAny R.data.toList [34,10]<0
 ·have hh:=HIN1.out hneg
  have hsb:Lx.scan (s.data.toList.drop i)=Lx.bad 6:=by rw [HSC.out,hh];rfl
  have HSB:=Lib.hid hsb;clear hsb hh HSC HIN1 HIN2;generalize Lib.indexAny R.data.toList [34,10]=o at *
  go_wp2
  refine bodyPost_ret (q14 rfl _ _ w.heap.size 67 _ _ rfl ((((HBLK.out.set_ 0 _).set_ 1 _).set_ 2 _).set_ 3 _) Tryz.underlying67 rfl (by kernel_rfl)) rfl ⟨?_,?_⟩
  ·rw [HSB.out];rfl
  ·exact q1t (q1t (q1t (q1t HB.out (Nat.le_refl _) _) (Nat.le_refl _) _) (Nat.le_refl _) _) (Nat.le_refl _) _
 ·obtain ⟨p1,p2,p3⟩:=HIN2.out (by omega)
  rw [← q0l] at p2;have HSC':=HSC.out;generalize Lib.indexAny R.data.toList [34,10]=o at *
  obtain ⟨q,rfl⟩:=Int.eq_ofNat_of_zero_le (show 0≤o by omega)
  have p1':Lx.span Lx.q2v R.data.toList=q:=by simpa using p1
  rw [p1'] at p2 p3 HSC';have hget:=qb1 R q p2;rw [hget] at p3;have hhd:(R.data.toList.drop q).head? = some R[q]:=by rw [List.head?_drop,hget]
  rw [hhd] at HSC';have HX:=q3j R 0 q;rw [Nat.sub_zero,List.drop_zero] at HX;clear p1 p1' HIN1 HIN2 hget hhd HSC;by_cases h10:R[q]=10
  ·have hsb:Lx.scan (s.data.toList.drop i)=Lx.bad 6:=by rw [HSC',h10];rfl
   have HSB:=Lib.hid hsb;have h10':((R[q].toNat:Int)==10)=true:=by rw [h10];rfl
   clear hsb HSC' h10 p3
   go_wp2
   refine bodyPost_ret (q14 rfl _ _ w.heap.size 67 _ _ rfl ((((HBLK.out.set_ 0 _).set_ 1 _).set_ 2 _).set_ 3 _) Tryz.underlying67 rfl (by kernel_rfl)) rfl ⟨?_,?_⟩
   ·rw [HSB.out];rfl
   ·exact q1t (q1t (q1t (q1t HB.out (Nat.le_refl _) _) (Nat.le_refl _) _) (Nat.le_refl _) _) (Nat.le_refl _) _
  ·have h34:R[q]=34:=by
    rcases p3 with h | h
    ·injection h
    ·injection h with h;exact absurd h h10
   have h10':((R[q].toNat:Int)==10)=false:=by rw [h34];rfl
   rw [h34] at HSC';rw [if_pos (beq_self_eq_true _)] at HSC';have HSC:=Lib.hid HSC';have HX':=Lib.hid HX;clear HSC' h10 p3 h34;by_cases h4:400<q
   ·have hsb:Lx.scan (s.data.toList.drop i)=Lx.bad 2:=by rw [HSC.out,if_pos h4]
    have HSB:=Lib.hid hsb;clear hsb HSC
    go_wp2
    refine bodyPost_ret (q14 rfl _ _ w.heap.size 67 _ _ rfl ((((HBLK.out.set_ 0 _).set_ 1 _).set_ 2 _).set_ 3 _) Tryz.underlying67 rfl (by kernel_rfl)) rfl ⟨?_,?_⟩
    ·rw [HSB.out];rfl
    ·exact q1t (q1t (q1t (q1t HB.out (Nat.le_refl _) _) (Nat.le_refl _) _) (Nat.le_refl _) _) (Nat.le_refl _) _
   ·have hsb:Lx.scan (s.data.toList.drop i)=⟨0,3,0,R.data.toList.take q,q+2⟩:=by rw [HSC.out,if_neg h4]
    have HSB:=Lib.hid hsb;clear hsb HSC
    go_wp2
    refine bodyPost_ret (q14 rfl _ _ w.heap.size 67 _ _ rfl ((((HBLK.out.set_ 0 _).set_ 1 _).set_ 2 _).set_ 3 _) Tryz.underlying67 rfl (by kernel_rfl)) rfl ⟨?_,?_⟩
    ·rw [HSB.out]
     simp only [Lx.Sc.out,Lx.Sc.fin,if_true];rw [← Nat.add_assoc];rfl
    ·exact q1t (q1t (q1t (q1t HB.out (Nat.le_refl _) _) (Nat.le_refl _) _) (Nat.le_refl _) _) (Nat.le_refl _) _
set_option maxRecDepth 100000 in
set_option maxHeartbeats 2000000 in
theorem next_mark (b:Nat) (s:ByteArray) (i:Nat) (w:World) (hs:s.size≤20000) (hi:i<s.size) (hb:b<w.heap.size) (h:Scan w b s) (hc:Lx.cls s[i]=7) :
  Calls Tryz.prog 78 #[.pointer (some ⟨b,0,none⟩),.int .i64 i] w λe w' =>
   e=.returned (.tuple #[(Lx.scan (s.data.toList.drop i)).out i,.int .i64 ((Lx.scan (s.data.toList.drop i)).fin i),.int .i64 (Lx.scan (s.data.toList.drop i)).err])∧Below w.heap.size w w':=by
 have hsc:=Lx.scan_mark s[i] (s.data.toList.drop (i+1)) hc;have hd:=q1r s i hi;rw [← hd] at hsc;have hc0:Lx.q1s (s.data.toList.drop i)=7:=by rw [hd];exact hc
 have HC:=Lib.hid hc0;have h0:=h.text;obtain ⟨R,hR⟩:∃ R,s.extract (i+1) s.size=R:=⟨_,rfl⟩;have hRl:R.data.toList=s.data.toList.drop (i+1):=by
  rw [← hR,Lib.extract_data];exact List.take_of_length_le (by rw [List.length_drop,← q0l];exact Nat.le_refl _)
 have hpre:Lib.hasPrefix R.data.toList [61]=((s.data.toList.drop (i+1)).head? == some 61):=by
  rw [hRl];cases s.data.toList.drop (i+1) with
  | nil=>rfl
  | cons c r =>
   simp only [Lib.hasPrefix,List.isPrefixOf,List.head?_cons,Bool.and_true];rw [Bool.eq_iff_iff];simp;exact eq_comm
 have HPRE:=Lib.hid hpre;clear hpre;rcases Bool.eq_false_or_eq_true ((s.data.toList.drop (i+1)).head? == some 61) with hq | hq
 ·have hlt:i+1<s.size:=by
   rcases Nat.lt_or_ge (i+1) s.size with h1 | h1
   ·exact h1
   ·rw [List.drop_eq_nil_of_le (by rw [← q0l];exact h1)] at hq;cases hq
  have hxt:s.extract i (i+2)=bs [s[i],61]:=by
   rw [q3j,show i+2-i=2 from by omega,hd]
   have h2:=q1r s (i+1) hlt;rw [h2] at hq ⊢;have h3:s[i+1]=61:=by simpa using hq
   rw [h3];rfl
  rw [if_pos hq] at hsc;have HSC:=Lib.hid hsc;have HXT:=Lib.hid hxt;clear hsc hd hc hRl hc0
  go_enter Tryz.func78,Tryz.ntmps78
  go_wp2_with fail
  refine (q56 b s i _ (by omega) (by omega) (by exact h.alloc hb _)).mono ?_
  rintro e w' ⟨rfl,m1,rfl⟩;rw [Int.toNat_natCast,HC.out]
  go_wp2_with fail
  refine (Tryz.strings_HasPrefix R _ _).mono ?_;rintro e w' ⟨rfl,rfl⟩;rw [show (({ data:=#[61] }:ByteArray).data.toList)=[61] from rfl,HPRE.out];rw [hq];clear hq
  go_wp2
  refine bodyPost_ret (q14 rfl _ _ w.heap.size 67 _ _ rfl (by exact (Blk.new w _ _).drewN _) Tryz.underlying67 rfl (by kernel_rfl)) rfl ⟨?_,?_⟩
  ·rw [HSC.out,HXT.out];rfl
  ·exact q2k (q0c (q06 w) _) _
 ·rw [if_neg (by rw [hq];decide)] at hsc
  have HSC:=Lib.hid hsc;clear hsc hd hc hRl hc0
  go_enter Tryz.func78,Tryz.ntmps78
  go_wp2_with fail
  refine (q56 b s i _ (by omega) (by omega) (by exact h.alloc hb _)).mono ?_
  rintro e w' ⟨rfl,m1,rfl⟩;rw [Int.toNat_natCast,HC.out]
  go_wp2_with fail
  refine (Tryz.strings_HasPrefix R _ _).mono ?_;rintro e w' ⟨rfl,rfl⟩;rw [show (({ data:=#[61] }:ByteArray).data.toList)=[61] from rfl,HPRE.out];rw [hq];clear hq
  go_wp2
  refine bodyPost_ret (q14 rfl _ _ w.heap.size 67 _ _ rfl (by exact (Blk.new w _ _).drewN _) Tryz.underlying67 rfl (by kernel_rfl)) rfl ⟨?_,?_⟩
  ·rw [HSC.out];rfl
  ·exact q2k (q0c (q06 w) _) _
set_option maxRecDepth 100000 in
set_option maxHeartbeats 2000000 in
theorem next_angle (b:Nat) (s:ByteArray) (i:Nat) (w:World) (hs:s.size≤20000) (hi:i<s.size) (hb:b<w.heap.size) (h:Scan w b s) (hc:Lx.cls s[i]=8) :
  Calls Tryz.prog 78 #[.pointer (some ⟨b,0,none⟩),.int .i64 i] w λe w' =>
   e=.returned (.tuple #[(Lx.scan (s.data.toList.drop i)).out i,.int .i64 ((Lx.scan (s.data.toList.drop i)).fin i),.int .i64 (Lx.scan (s.data.toList.drop i)).err])∧Below w.heap.size w w':=by
 have hsc:=Lx.scan_angle s[i] (s.data.toList.drop (i+1)) hc;have hd:=q1r s i hi;rw [← hd] at hsc;have hc0:Lx.q1s (s.data.toList.drop i)=8:=by rw [hd];exact hc
 have HC:=Lib.hid hc0;have h0:=h.text;obtain ⟨R,hR⟩:∃ R,s.extract (i+1) s.size=R:=⟨_,rfl⟩;have hRl:R.data.toList=s.data.toList.drop (i+1):=by
  rw [← hR,Lib.extract_data];exact List.take_of_length_le (by rw [List.length_drop,← q0l];exact Nat.le_refl _)
 have hpre:Lib.hasPrefix R.data.toList [61]=((s.data.toList.drop (i+1)).head? == some 61):=by
  rw [hRl];cases s.data.toList.drop (i+1) with
  | nil=>rfl
  | cons c r =>
   simp only [Lib.hasPrefix,List.isPrefixOf,List.head?_cons,Bool.and_true];rw [Bool.eq_iff_iff];simp;exact eq_comm
 have HPRE:=Lib.hid hpre;clear hpre;rcases Bool.eq_false_or_eq_true ((s.data.toList.drop (i+1)).head? == some 61) with hq | hq
 ·have hlt:i+1<s.size:=by
   rcases Nat.lt_or_ge (i+1) s.size with h1 | h1
   ·exact h1
   ·rw [List.drop_eq_nil_of_le (by rw [← q0l];exact h1)] at hq;cases hq
  have hxt:s.extract i (i+2)=bs [s[i],61]:=by
   rw [q3j,show i+2-i=2 from by omega,hd]
   have h2:=q1r s (i+1) hlt;rw [h2] at hq ⊢;have h3:s[i+1]=61:=by simpa using hq
   rw [h3];rfl
  rw [if_pos hq] at hsc;have HSC:=Lib.hid hsc;have HXT:=Lib.hid hxt;clear hsc hd hc hRl hc0
  go_enter Tryz.func78,Tryz.ntmps78
  go_wp2_with fail
  refine (q56 b s i _ (by omega) (by omega) (by exact h.alloc hb _)).mono ?_
  rintro e w' ⟨rfl,m1,rfl⟩;rw [Int.toNat_natCast,HC.out]
  go_wp2_with fail
  refine (Tryz.strings_HasPrefix R _ _).mono ?_;rintro e w' ⟨rfl,rfl⟩;rw [show (({ data:=#[61] }:ByteArray).data.toList)=[61] from rfl,HPRE.out];rw [hq];clear hq
  go_wp2
  refine bodyPost_ret (q14 rfl _ _ w.heap.size 67 _ _ rfl (by exact (Blk.new w _ _).drewN _) Tryz.underlying67 rfl (by kernel_rfl)) rfl ⟨?_,?_⟩
  ·rw [HSC.out,HXT.out];rfl
  ·exact q2k (q0c (q06 w) _) _
 ·rw [if_neg (by rw [hq];decide)] at hsc
  have hxt:s.extract i (i+1)=bs [s[i]]:=by
   rw [q3j,show i+1-i=1 from by omega,hd]
   rfl
  have HSC:=Lib.hid hsc;have HXT:=Lib.hid hxt;clear hsc hd hc hRl hc0 hxt
  go_enter Tryz.func78,Tryz.ntmps78
  go_wp2_with fail
  refine (q56 b s i _ (by omega) (by omega) (by exact h.alloc hb _)).mono ?_
  rintro e w' ⟨rfl,m1,rfl⟩;rw [Int.toNat_natCast,HC.out]
  go_wp2_with fail
  refine (Tryz.strings_HasPrefix R _ _).mono ?_;rintro e w' ⟨rfl,rfl⟩;rw [show (({ data:=#[61] }:ByteArray).data.toList)=[61] from rfl,HPRE.out];rw [hq];clear hq
  go_wp2
  refine bodyPost_ret (q14 rfl _ _ w.heap.size 67 _ _ rfl (by exact (Blk.new w _ _).drewN _) Tryz.underlying67 rfl (by kernel_rfl)) rfl ⟨?_,?_⟩
  ·rw [HSC.out,HXT.out];rfl
  ·exact q2k (q0c (q06 w) _) _
set_option maxRecDepth 100000 in
set_option maxHeartbeats 2000000 in
theorem next_sym (b:Nat) (s:ByteArray) (i:Nat) (w:World) (hs:s.size≤20000) (hi:i<s.size) (hb:b<w.heap.size) (h:Scan w b s) (hc:Lx.cls s[i]=9) :
  Calls Tryz.prog 78 #[.pointer (some ⟨b,0,none⟩),.int .i64 i] w λe w' =>
   e=.returned (.tuple #[(Lx.scan (s.data.toList.drop i)).out i,.int .i64 ((Lx.scan (s.data.toList.drop i)).fin i),.int .i64 (Lx.scan (s.data.toList.drop i)).err])∧Below w.heap.size w w':=by
 have hsc:=Lx.scan_sym s[i] (s.data.toList.drop (i+1)) hc;have hd:=q1r s i hi;rw [← hd] at hsc;have hc0:Lx.q1s (s.data.toList.drop i)=9:=by rw [hd];exact hc
 have HC:=Lib.hid hc0;have h0:=h.text;have hxt:s.extract i (i+1)=bs [s[i]]:=by
  rw [q3j,show i+1-i=1 from by omega,hd]
  rfl
 have HSC:=Lib.hid hsc;have HXT:=Lib.hid hxt;clear hsc hd hc hc0 hxt
 go_enter Tryz.func78,Tryz.ntmps78
 go_wp2_with fail
 refine (q56 b s i _ (by omega) (by omega) (by exact h.alloc hb _)).mono ?_
 rintro e w' ⟨rfl,m1,rfl⟩;rw [Int.toNat_natCast,HC.out]
 go_wp2
 refine bodyPost_ret (q14 rfl _ _ w.heap.size 67 _ _ rfl (by exact (Blk.new w _ _).drewN _) Tryz.underlying67 rfl (by kernel_rfl)) rfl ⟨?_,?_⟩
 ·rw [HSC.out,HXT.out];rfl
 ·exact q2k (q0c (q06 w) _) _
set_option maxRecDepth 100000 in
set_option maxHeartbeats 2000000 in
theorem next_other (b:Nat) (s:ByteArray) (i:Nat) (w:World) (hs:s.size≤20000) (hi:i<s.size) (hb:b<w.heap.size) (h:Scan w b s) (h3:Lx.cls s[i]≠3) (h4:Lx.cls s[i]≠4) (h6:Lx.cls s[i]≠6) (h7:Lx.cls s[i]≠7) (h8:Lx.cls s[i]≠8) (h9:Lx.cls s[i]≠9) :
  Calls Tryz.prog 78 #[.pointer (some ⟨b,0,none⟩),.int .i64 i] w λe w' =>
   e=.returned (.tuple #[(Lx.scan (s.data.toList.drop i)).out i,.int .i64 ((Lx.scan (s.data.toList.drop i)).fin i),.int .i64 (Lx.scan (s.data.toList.drop i)).err])∧Below w.heap.size w w':=by
 have hsc:=Lx.scan_other s[i] (s.data.toList.drop (i+1)) h3 h4 h6 h7 h8 h9;have hd:=q1r s i hi;rw [← hd] at hsc;have hc0:Lx.q1s (s.data.toList.drop i)=Lx.cls s[i]:=by rw [hd];rfl
 have HC:=Lib.hid hc0;have e3:((Lx.cls s[i]:Int)==3)=false:=by rw [beq_eq_false_iff_ne];omega
 have e4:((Lx.cls s[i]:Int)==4)=false:=by rw [beq_eq_false_iff_ne];omega
 have e6:((Lx.cls s[i]:Int)==6)=false:=by rw [beq_eq_false_iff_ne];omega
 have e7:((Lx.cls s[i]:Int)==7)=false:=by rw [beq_eq_false_iff_ne];omega
 have e8:((Lx.cls s[i]:Int)==8)=false:=by rw [beq_eq_false_iff_ne];omega
 have e9:((Lx.cls s[i]:Int)==9)=false:=by rw [beq_eq_false_iff_ne];omega
 have HSC:=Lib.hid hsc;clear hsc hd hc0
 go_enter Tryz.func78,Tryz.ntmps78
 go_wp2_with fail
 refine (q56 b s i _ (by omega) (by omega) (by exact h.alloc hb _)).mono ?_
 rintro e w' ⟨rfl,m1,rfl⟩;rw [Int.toNat_natCast,HC.out];generalize Lx.cls s[i]=cc at *
 go_wp2
 refine bodyPost_ret (q14 rfl _ _ w.heap.size 67 _ _ rfl (by exact (Blk.new w _ _).drewN _) Tryz.underlying67 rfl (by kernel_rfl)) rfl ⟨?_,?_⟩
 ·rw [HSC.out];rfl
 ·exact q2k (q0c (q06 w) _) _
theorem next_any (b:Nat) (s:ByteArray) (i:Int) (w:World) (hs:s.size≤20000) (hi0:0≤i) (hi:i<s.size) (hb:b<w.heap.size) (h:Scan w b s) :
  Calls Tryz.prog 78 #[.pointer (some ⟨b,0,none⟩),.int .i64 i] w λe w' =>
   e=.returned (.tuple #[(Lx.scan (s.data.toList.drop i.toNat)).out i.toNat,.int .i64 ((Lx.scan (s.data.toList.drop i.toNat)).fin i.toNat),.int .i64 (Lx.scan (s.data.toList.drop i.toNat)).err])∧Below w.heap.size w w':=by
 obtain ⟨i,rfl⟩:=Int.eq_ofNat_of_zero_le hi0;rw [Int.toNat_natCast];have hi':i<s.size:=by omega
 by_cases h3:Lx.cls s[i]=3
 ·exact next_letter b s i w hs hi' hb h h3
 by_cases h4:Lx.cls s[i]=4
 ·exact next_digit b s i w hs hi' hb h h4
 by_cases h6:Lx.cls s[i]=6
 ·exact next_quote b s i w hs hi' hb h h6
 by_cases h7:Lx.cls s[i]=7
 ·exact next_mark b s i w hs hi' hb h h7
 by_cases h8:Lx.cls s[i]=8
 ·exact next_angle b s i w hs hi' hb h h8
 by_cases h9:Lx.cls s[i]=9
 ·exact next_sym b s i w hs hi' hb h h9
 exact next_other b s i w hs hi' hb h h3 h4 h6 h7 h8 h9
end Go.Proofs.YtnpkpehlncnkgaaGreatDoor
namespace Go.Proofs.YtnpkpehlncnkgaaGreatDoor
open Go.RowKit
def q18 (C:Array Value) (l:List UInt8) (k:Int):Array Value:=l.foldl (λC c=>C.setIfInBounds c.toNat (.int .i64 k)) C
theorem q2q (C:Array Value) (l:List UInt8) (k:Int):(q18 C l k).size=C.size:=by
 unfold q18
 induction l generalizing C with
 | nil=>rfl
 | cons c r ih=>rw [List.foldl_cons,ih];simp
theorem setAll_snoc (C:Array Value) (l:List UInt8) (c:UInt8) (k:Int):q18 C (l++[c]) k=(q18 C l k).setIfInBounds c.toNat (.int .i64 k):=by
 simp [q18]
theorem qk8 (w:World) (g i:Nat) (C:Array Value) (t:TypeId) (v:Value) (C':Array Value) (hg:w.heap[g]? = some (.cells C t (0,0))):(w.setRow g C').setCell ⟨g,i,none⟩ v=w.setRow g (C'.setIfInBounds i v):=by
 simp only [World.setRow,World.setCell]
 congr 1
 apply Array.ext_getElem?
 intro j;simp only [Array.getElem?_modify];by_cases h:g=j
 ·subst h;simp [hg]
 ·simp [h]
theorem setRow_heap (w:World) (g:Nat) (C:Array Value) (t:TypeId) (C':Array Value) (hg:w.heap[g]? = some (.cells C t (0,0))):(w.setRow g C').heap[g]? = some (.cells C' t (0,0)):=by
 simp [World.setRow,Array.getElem?_modify,hg]
theorem setRow_self (w:World) (g:Nat) (C:Array Value) (t:TypeId) (hg:w.heap[g]? = some (.cells C t (0,0))):w.setRow g C=w:=by
 simp only [World.setRow];have:(w.heap.modify g fun | .cells _ elem frozen=>.cells C elem frozen | o=>o)=w.heap:=by
  apply Array.ext_getElem?
  intro j;rw [Array.getElem?_modify];by_cases h:g=j
  ·subst h;simp [hg]
  ·simp [h]
 exact congrArg (λh=>({ w with heap:=h }:World)) this
set_option maxRecDepth 100000 in
set_option maxHeartbeats 1000000 in
theorem set_any (s:ByteArray) (k:Int) (g:Nat) (C:Array Value) (w:World) (hs:s.size≤1000) (hC:C.size=256) (hg:w.heap[g]? = some (.cells C 85 (0,0))) :
  Calls Tryz.prog 105 #[.string s,.int .i64 k,.pointer (some ⟨g,0,none⟩)] w λe w'=>e=.returned (.tuple #[])∧w'=w.setRow g (q18 C s.data.toList k):=by
 have HG:=Lib.hid hg;have hw:w=w.setRow g (q18 C (s.data.toList.take 0) k):=(setRow_self w g C _ hg).symm;have HW:=Lib.hid hw;clear hw hg;have HC:=Lib.hid hC;clear hC
 go_enter Tryz.func105,Tryz.ntmps105
 go_wp2
 go_loopw [5] (λv wr=>∃ i:Nat,i≤s.size∧v=.int .i64 i∧wr=w.setRow g (q18 C (s.data.toList.take i) k)) (λv _=>s.size-(intOf v).toNat)
 case atStart=>exact ⟨0,by omega,rfl,HW.out⟩
 case round =>
  obtain ⟨i,hi,rfl,hwr⟩:=hrel;have HWR:=Lib.hid hwr;clear hwr;by_cases hlt:i<s.size
  ·have hx:=qb1 s i hlt
   have HX:=Lib.hid hx;clear hx;have hb:s[i].toNat<256:=UInt8.toNat_lt s[i];have hh:wr.heap[g]? = some (.cells (q18 C (s.data.toList.take i) k) 85 (0,0)):=by rw [HWR.out];exact setRow_heap w g C _ _ HG.out
   have hcell:wr.cell? ⟨g,s[i].toNat,none⟩=some ((q18 C (s.data.toList.take i) k)[s[i].toNat]'(by rw [q2q,HC.out];exact hb)):=by
    rw [cell_of_row wr g _ _ _ _ hh];simp
   have hfr:wr.frozen? ⟨g,s[i].toNat,none⟩=false:=frozen_of_row wr g _ _ _ hh;clear hh;generalize (q18 C (s.data.toList.take i) k)[s[i].toNat]'(by rw [q2q,HC.out];exact hb)=old at *
   go_wp2
   go_roundw
   case rel =>
    refine ⟨i+1,by omega,by go_num,?_⟩
    rw [List.take_add_one,HX.out,HWR.out];simp only [Option.toList];rw [setAll_snoc,← qk8 w g _ C _ _ _ HG.out]
   case measure=>simp [intOf];omega
  ·go_wp2
   go_end0
   refine ⟨rfl,?_⟩;have hi2:i=s.size:=by omega
   rw [HWR.out,List.take_of_length_le (by rw [← q0l];omega)]
theorem setRow_two (w:World) (o:Obj) (c c':Array Value) (t:TypeId):((w.alloc o).alloc (.cells c t)).setRow (w.heap.size+1) c'=(w.alloc o).alloc (.cells c' t):=by
 have:=World.setRow_alloc_new (w.alloc o) c c' t
 simpa using this
theorem heap_two (w:World) (o o':Obj):((w.alloc o).alloc o').heap[w.heap.size+1]? = some o':=by
 have:=heap_alloc_last (w.alloc o) o'
 simpa using this
theorem q60 (s:ByteArray) (k:Int) (w:World) (o:Obj) (C:Array Value) (hs:s.size≤1000) (hC:C.size=256) :
  Calls Tryz.prog 105 #[.string s,.int .i64 k,.pointer (some ⟨w.heap.size+1,0,none⟩)] ((w.alloc o).alloc (.cells C 85)) λe w' =>
   e=.returned (.tuple #[])∧w'=(w.alloc o).alloc (.cells (q18 C s.data.toList k) 85):=by
 refine (set_any s k (w.heap.size+1) C _ hs hC (heap_two w o _)).mono ?_;rintro e w' ⟨rfl,rfl⟩;exact ⟨rfl,setRow_two w o _ _ _⟩
def tab0:Array Value:=Array.replicate 256 (.int .i64 0)
def tab1:Array Value:=q18 tab0 [97,98,99,100,101,102,103,104,105,106,107,108,109,110,111,112,113,114,115,116,117,118,119,120,121,122,65,66,67,68,69,70,71,72,73,74,75,76,77,78,79,80,81,82,83,84,85,86,87,88,89,90] 3
def tab2:Array Value:=q18 tab1 [48,49,50,51,52,53,54,55,56,57] 4
def tab3:Array Value:=q18 tab2 [95] 5
def tab4:Array Value:=q18 tab3 [32,9,10] 1
def tab5:Array Value:=q18 tab4 [35] 2
def tab6:Array Value:=q18 tab5 [34] 6
def tab7:Array Value:=q18 tab6 [33] 7
def tab8:Array Value:=q18 tab7 [60,62] 8
def tab9:Array Value:=q18 tab8 [59,44,46,58,40,41,91,93,123,125,61,43,45] 9
theorem qbt:tab0.size=256:=by simp [tab0]
theorem tab1_size:tab1.size=256:=by unfold tab1;rw [q2q,qbt]
theorem tab2_size:tab2.size=256:=by unfold tab2;rw [q2q,tab1_size]
theorem tab3_size:tab3.size=256:=by unfold tab3;rw [q2q,tab2_size]
theorem tab4_size:tab4.size=256:=by unfold tab4;rw [q2q,tab3_size]
theorem tab5_size:tab5.size=256:=by unfold tab5;rw [q2q,tab4_size]
theorem tab6_size:tab6.size=256:=by unfold tab6;rw [q2q,tab5_size]
theorem tab7_size:tab7.size=256:=by unfold tab7;rw [q2q,tab6_size]
theorem tab8_size:tab8.size=256:=by unfold tab8;rw [q2q,tab7_size]
def q3h:Array Value:=((List.range 256).map λc=>Value.int .i64 (Lx.cls (UInt8.ofNat c):Nat)).toArray
theorem tab_all:tab9=q3h:=by kernel_rfl
theorem q6c:q3h.size=256:=by kernel_rfl
theorem clsTab_at (c:UInt8):q3h[c.toNat]? = some (.int .i64 (Lx.cls c:Nat)):=by
 have hc:c.toNat<256:=UInt8.toNat_lt c;have h:q3h.toList[c.toNat]? = some (.int .i64 (Lx.cls c:Nat)):=by
  show ((List.range 256).map λc=>Value.int .i64 (Lx.cls (UInt8.ofNat c):Nat))[c.toNat]? = _
  rw [List.getElem?_map,List.getElem?_range hc];simp
 simpa using h
theorem qja:q3h.all (·.oneCell')=true:=by kernel_rfl
theorem zero_tab:∀ w,(zeroValue 85).run Tryz.prog w=.ok (.agg tab0) w:=λ_=>by kernel_rfl
theorem qil:(Tryz.prog.info? 85).map (·.size)=some 256:=by kernel_rfl
set_option maxRecDepth 100000 in
set_option maxHeartbeats 1000000 in
theorem classes_any (w:World) :
  Calls Tryz.prog 76 #[] w λe w'=>e=.returned (.agg q3h)∧Below w.heap.size w w':=by
 have hmf:∀ (fn:Fn) (first cap:Array Value) (w:World),(Instr.makeFunc fn first cap).run Tryz.prog w=.ok (.func fn first cap) w:=λ_ _ _ _=>rfl
 have hz:=zero_tab
 go_enter Tryz.func76,Tryz.ntmps76
 go_wp2_with fail
 refine (q60 { data:=#[97,98,99,100,101,102,103,104,105,106,107,108,109,110,111,112,113,114,115,116,117,118,119,120,121,122,65,66,67,68,69,70,71,72,73,74,75,76,77,78,79,80,81,82,83,84,85,86,87,88,89,90] } 3 w _ tab0 (by show 52≤1000;omega) qbt).mono ?_
 rintro e w' ⟨rfl,rfl⟩;rw [show q18 tab0 ({ data:=#[97,98,99,100,101,102,103,104,105,106,107,108,109,110,111,112,113,114,115,116,117,118,119,120,121,122,65,66,67,68,69,70,71,72,73,74,75,76,77,78,79,80,81,82,83,84,85,86,87,88,89,90] }:ByteArray).data.toList 3=tab1 from rfl]
 go_wp2_with fail
 refine (q60 { data:=#[48,49,50,51,52,53,54,55,56,57] } 4 w _ tab1 (by show 10≤1000;omega) tab1_size).mono ?_
 rintro e w' ⟨rfl,rfl⟩;rw [show q18 tab1 ({ data:=#[48,49,50,51,52,53,54,55,56,57] }:ByteArray).data.toList 4=tab2 from rfl]
 go_wp2_with fail
 refine (q60 { data:=#[95] } 5 w _ tab2 (by show 1≤1000;omega) tab2_size).mono ?_
 rintro e w' ⟨rfl,rfl⟩;rw [show q18 tab2 ({ data:=#[95] }:ByteArray).data.toList 5=tab3 from rfl]
 go_wp2_with fail
 refine (q60 { data:=#[32,9,10] } 1 w _ tab3 (by show 3≤1000;omega) tab3_size).mono ?_
 rintro e w' ⟨rfl,rfl⟩;rw [show q18 tab3 ({ data:=#[32,9,10] }:ByteArray).data.toList 1=tab4 from rfl]
 go_wp2_with fail
 refine (q60 { data:=#[35] } 2 w _ tab4 (by show 1≤1000;omega) tab4_size).mono ?_
 rintro e w' ⟨rfl,rfl⟩;rw [show q18 tab4 ({ data:=#[35] }:ByteArray).data.toList 2=tab5 from rfl]
 go_wp2_with fail
 refine (q60 { data:=#[34] } 6 w _ tab5 (by show 1≤1000;omega) tab5_size).mono ?_
 rintro e w' ⟨rfl,rfl⟩;rw [show q18 tab5 ({ data:=#[34] }:ByteArray).data.toList 6=tab6 from rfl]
 go_wp2_with fail
 refine (q60 { data:=#[33] } 7 w _ tab6 (by show 1≤1000;omega) tab6_size).mono ?_
 rintro e w' ⟨rfl,rfl⟩;rw [show q18 tab6 ({ data:=#[33] }:ByteArray).data.toList 7=tab7 from rfl]
 go_wp2_with fail
 refine (q60 { data:=#[60,62] } 8 w _ tab7 (by show 2≤1000;omega) tab7_size).mono ?_
 rintro e w' ⟨rfl,rfl⟩;rw [show q18 tab7 ({ data:=#[60,62] }:ByteArray).data.toList 8=tab8 from rfl]
 go_wp2_with fail
 refine (q60 { data:=#[59,44,46,58,40,41,91,93,123,125,61,43,45] } 9 w _ tab8 (by show 13≤1000;omega) tab8_size).mono ?_
 rintro e w' ⟨rfl,rfl⟩;rw [show q18 tab8 ({ data:=#[59,44,46,58,40,41,91,93,123,125,61,43,45] }:ByteArray).data.toList 9=tab9 from rfl];rw [tab_all]
 go_wp2_with (first | (refine wpList_load_row rfl 85 _ rfl (w.heap.size+1) rfl 85 q3h (0,0) _ (heap_two w _ _) Tryz.underlying85 rfl (by rw [q6c];exact qil) ?_) | (refine wpList_store_row rfl 85 _ _ rfl w.heap.size q3h rfl rfl 85 tab0 ?h1 (by rw [q6c];exact qil) (by rw [q6c,qbt]) qja ?_))
 case h1=>exact heap_alloc2_old w _ _
 have hh:((((w.alloc (.cells tab0 85)).alloc (.cells q3h 85))).setRow w.heap.size q3h).heap[w.heap.size]? = some (.cells q3h 85 (0,0)) :=
  setRow_heap _ _ tab0 _ _ (heap_alloc2_old w _ _)
 refine bodyPost_ret (results_cell_row rfl _ _ w.heap.size 85 q3h (0,0) _ rfl hh Tryz.underlying85 rfl (by rw [q6c];exact qil)) rfl ⟨rfl,?_⟩
 refine (((Below.refl w.heap.size w).alloc (Nat.le_refl _) (.cells tab0 85)).alloc (by simp) (.cells q3h 85)).trans ⟨rfl,rfl,rfl,by simp,λk hk=>?_⟩
 simp only [World.setRow,Array.getElem?_modify];rw [if_neg (by omega)]
end Go.Proofs.YtnpkpehlncnkgaaGreatDoor
namespace Go.Proofs.YtnpkpehlncnkgaaGreatDoor
open Go.RowKit
attribute [local go_sem] q65 q58 q5k
def Lx.Tok.cells (t:Lx.Tok):List Value:=[.int .i64 t.kind,.int .i64 t.pos,.int .i64 t.n,.string (bs t.text)]
def q4g (l:List Lx.Tok):List Value:=l.flatMap Lx.Tok.cells
theorem qjm (l r:List Lx.Tok):q4g (l++r)=q4g l++q4g r:=by simp [q4g]
def TokRow (w:World) (base:Nat) (v:Value) (l:List Lx.Tok):Prop:=w.ownsRow base 67 4 v l.length (q4g l)
theorem info_tok:(Tryz.prog.info? 67).map (λi=>(i.zero,i.size,i.bytes))=some (some (.agg #[.int .i64 0,.int .i64 0,.int .i64 0,.string { data:=#[] }]),4,40):=by kernel_rfl
def q1y (s:ByteArray):Array Value:=#[.string s]++q3h
theorem qcp (s:ByteArray):(q1y s).size=257:=by
 unfold q1y;rw [Array.size_append,q6c];rfl
theorem qke (s:ByteArray):(q1y s).all (·.oneCell')=true:=by
 unfold q1y;rw [Array.all_append,qja];simp [Value.oneCell']
theorem zeroScan:∀ w,(zeroValue 88).run Tryz.prog w=.ok (.agg (#[.string { data:=#[] }]++tab0)) w:=λ_=>by kernel_rfl
theorem builtScan (s:ByteArray):Tryz.prog.built 88 [(0,.string s),(1,.agg q3h)]=some (q1y s):=by kernel_rfl
theorem infoScan:(Tryz.prog.info? 88).map (·.size)=some 257:=by kernel_rfl
theorem scan_new (w:World) (s:ByteArray) (t:TypeId) (g:Nat) (h:Blk w g t (q1y s)):Scan w g s:=by
 refine ⟨(h.cell 0).trans ?_,λc=>(h.cell _).trans ?_⟩
 ·unfold q1y
  rw [Array.getElem?_append_left (by simp)]
  rfl
 ·unfold q1y
  rw [Array.getElem?_append_right (by simp)]
  simp only [List.size_toArray,List.length_singleton,Nat.add_sub_cancel_left];exact clsTab_at c
end Go.Proofs.YtnpkpehlncnkgaaGreatDoor
namespace Go.Proofs.YtnpkpehlncnkgaaGreatDoor
open Go.RowKit
attribute [local go_sem] q65 q58 q5k
theorem setRow_last (w:World) (c c':Array Value) (t:TypeId):(w.alloc (.cells c t)).setRow w.heap.size c'=w.alloc (.cells c' t):=World.setRow_alloc_new w c c' t
structure LexRel (s:ByteArray) (w0:World) (out i:Value) (wr:World):Prop where
 ex:∃ (A:Option Addr) (c k f:Nat) (l:List Lx.Tok),out=.slice A l.length c∧i=.int .i64 k∧k≤s.size∧l.length≤5000 ∧
  wr.ownsRow w0.heap.size 67 4 out l.length (q4g l)∧s.size<f+k∧Lx.q5f f l k (s.data.toList.drop k)=Lx.lex s.data.toList
 below:Below w0.heap.size w0 wr
set_option maxRecDepth 100000 in
set_option maxHeartbeats 400000 in
theorem lex_any (s:ByteArray) (w:World) (hs:s.size≤9223372036854775807) :
  Calls Tryz.prog 54 #[.string s] w λe w'=>∃ v,e=.returned (.tuple #[v,.int .i64 (Lx.lex s.data.toList).2.1,.int .i64 (Lx.lex s.data.toList).2.2]) ∧
   TokRow w' w.heap.size v (Lx.lex s.data.toList).1∧Below w.heap.size w w':=by
 by_cases hbig:20000<s.size
 ·have hl:Lx.lex s.data.toList=([],2,-1):=by
   unfold Lx.lex;rw [if_pos (by rw [← q0l];exact hbig)]
  rw [hl];clear hl
  go_enter Tryz.func54,Tryz.ntmps54
  go_wp2
  go_ret3
  exact ⟨_,rfl,⟨rfl,.inl ⟨rfl,rfl⟩⟩,q06 w⟩
 ·have hz:=zeroScan
  go_enter Tryz.func54,Tryz.ntmps54
  go_wp2_with fail
  refine (classes_any _).mono ?_;rintro e w1 ⟨rfl,hb1⟩;have HB1:=Lib.hid hb1;clear hb1
  go_wp2_with (first | (refine qj0 rfl 88 _ rfl [(0,.string s),(1,.agg q3h)] rfl (q1y s) (builtScan s) ?_) | (refine wpList_store_row rfl 88 _ _ rfl w1.heap.size (q1y s) rfl rfl 88 _ (heap_alloc_last w1 _) (by rw [qcp];exact infoScan) (by rw [qcp,Array.size_append,qbt];rfl) (qke s) ?_))
  rw [setRow_last w1 _ (q1y s)]
  go_wp2_with fail
  refine (gap_any w1.heap.size s 0 _ (by omega) (by omega) (by omega) (by simp) (scan_new _ s _ _ (Blk.new w1 _ _))).mono ?_
  rintro e w2 ⟨rfl,hb2⟩;rw [show (0:Int).toNat=0 from rfl,List.drop_zero,Nat.zero_add];have hw0:Below w.heap.size w (w1.alloc (.cells (q1y s) 88)):=q0c HB1.out _;have hS0:=scan_new _ s _ _ (Blk.new w1 88 (q1y s));have hlt0:w1.heap.size<(w1.alloc (.cells (q1y s) 88)).heap.size:=by simp
  generalize hW0:w1.alloc (.cells (q1y s) 88)=W0 at *
  generalize hB0:w1.heap.size=b0 at *
  clear hW0 hz;have hg0:=Lx.gap_le s.data.toList;rw [← q0l] at hg0;have hl:Lx.q5f (s.data.toList.length+1) [] (Lx.gap s.data.toList) (s.data.toList.drop (Lx.gap s.data.toList))=Lx.lex s.data.toList:=by
   unfold Lx.lex;rw [if_neg (by rw [← q0l];exact hbig)]
  have HL:=Lib.hid hl;have HW0:=Lib.hid hw0;have HS0:=Lib.hid hS0;have HB2:=Lib.hid hb2;clear hl hw0 hS0 hb2
  go_wp2
  go_loopw [6,7] (λout i wr=>LexRel s W0 out i wr) (λ_ i _=>s.size-(intOf i).toNat)
  case atStart=>exact ⟨⟨none,0,_,_,[],rfl,rfl,hg0,by simp,⟨rfl,.inl ⟨rfl,rfl⟩⟩,by rw [q0l];omega,HL.out⟩,HB2.out⟩
  case round =>
   obtain ⟨⟨A,c,k,f,l,rfl,rfl,hk,hl5,hown,hf,hlex⟩,hbr⟩:=hrel;have HOWN:=Lib.hid hown;have HLEX:=Lib.hid hlex;clear hown hlex HL HB2;have hSr:=HS0.out.below hbr hlt0;have hszr:=hbr.size;have HBR:=Lib.hid hbr;have HSR:=Lib.hid hSr;clear hbr hSr;by_cases hlt:k<s.size
   ·obtain ⟨f,rfl⟩:∃ f',f=f'+1:=⟨f-1,by omega⟩
    have hd:=q1r s k hlt;have hlex:=HLEX.out;rw [hd] at hlex;have HLX:=Lib.hid hlex;have HD:=Lib.hid hd;clear hlex hd HLEX
    go_wp2_with fail
    refine (next_any b0 s k _ (by omega) (by omega) (by omega) (by omega) HSR.out).mono ?_
    rintro e w3 ⟨rfl,hb3⟩;rw [Int.toNat_natCast];have hw:=Lx.qdn (s.data.toList.drop k);unfold Lx.Fits at hw;rw [List.length_drop,← q0l] at hw;have h1:=Lx.lexAt_full f l k s[k] (s.data.toList.drop (k+1));have h2:=Lx.lexAt_err f l k s[k] (s.data.toList.drop (k+1));have h3:=Lx.lexAt_tok f l k s[k] (s.data.toList.drop (k+1));have hlx:=HLX.out;rw [← HD.out] at h1 h2 h3 hlx;obtain ⟨q,hq,hq2⟩:∃ q:Int,(Lx.scan (s.data.toList.drop k)).out k=.agg #[.int .i64 (Lx.scan (s.data.toList.drop k)).kind,.int .i64 q,.int .i64 (Lx.scan (s.data.toList.drop k)).n,.string (bs (Lx.scan (s.data.toList.drop k)).text)] ∧
      ((Lx.scan (s.data.toList.drop k)).err=0→q=k):=⟨_,rfl,λh=>by rw [if_pos h]⟩
    rw [hq];clear hq HLX HD;generalize Lx.scan (s.data.toList.drop k)=r at *
    obtain ⟨err,kind,n,text,width⟩:=r;simp only [] at hw h1 h2 h3 hq2;simp only [Lx.Sc.fin];by_cases he:err=0
    ·subst he
     rw [if_pos rfl];obtain rfl:=hq2 rfl;obtain ⟨hw1,hw2⟩:=hw rfl;by_cases hfull:l.length=5000
     ·have hfin:=h1 rfl hfull
      rw [hlx] at hfin;have HFIN:=Lib.hid hfin;have hfull':((l.length:Int)==5000)=true:=by rw [beq_iff_eq];omega
      clear hfin hlx h1 h2 h3 hfull;have HB3:=Lib.hid hb3;clear hb3
      go_wp2
      go_ret3
      refine ⟨.slice none 0 0,?_,?_,?_⟩
      ·rw [HFIN.out];rfl
      ·rw [HFIN.out];exact ⟨rfl,.inl ⟨rfl,rfl⟩⟩
      ·exact HW0.out.trans ((HBR.out.trans ((q0c HB3.out _).mono hszr)).mono HW0.out.size)
     ·have hfin:=h3 rfl hfull
      rw [hlx] at hfin;have HFIN:=Lib.hid hfin;have hfull':((l.length:Int)==5000)=false:=by rw [beq_eq_false_iff_ne];omega
      have hlenb:l.length+1≤5000:=by omega
      clear hfin hlx h1 h2 h3 hfull;have HB3:=Lib.hid hb3;clear hb3;obtain ⟨i0,hi0,hz0,hz1,hz2⟩:=info_parts info_tok;have hub:∀ u∈[Value.int .i64 kind,.int .i64 k,.int .i64 n,.string (bs text)],u.oneCell'=true:=by simp [Value.oneCell']
      have HUB:=Lib.hid hub;clear hub;have hb3z:=HB3.out.size
      go_wp2_with (first | (at_builtin;refine wpList_append_own _ rfl _ _ 63 rfl W0.heap.size 67 i0 (.agg #[.int .i64 0,.int .i64 0,.int .i64 0,.string { data:=#[] }]) 4 40 Tryz.underlying63 hi0 hz0 hz1 hz2 rfl (by decide) _ l.length (q4g l) rfl (q6l (q6l (q6l HOWN.out HB3.out) (q0c (q06 w3) _)) (q0c (q06 _) _)) ⟨w3.heap.size+1,0,none⟩ 1 1 [.int .i64 kind,.int .i64 k,.int .i64 n,.string (bs text)] rfl rfl (by exact cells_new _ [.int .i64 kind,.int .i64 k,.int .i64 n,.string (bs text)] _ _ (by simp)) HUB.out (by unfold maxLen;omega) (by omega) (by simp;omega) ?_;intro v' w4 hown4 hg4 _))
      obtain ⟨A',c',rfl⟩:=slice_of_row hown4;have hbel4:Below W0.heap.size W0 w4:=(HBR.out.trans (HB3.out.mono hszr)).trans ((((q06 w3).alloc (Nat.le_refl _) _).alloc (by simp) _).mono (by omega)) |>.grown hg4 (by simp;omega) (q2h HOWN.out)
      have hS4:=HS0.out.below hbel4 hlt0;have hz4:=hbel4.size;have HBEL4:=Lib.hid hbel4;have HOWN4:=Lib.hid hown4;clear hbel4 hown4 hg4;refine (gap_any b0 s _ _ (by omega) (by omega) (by omega) (by omega) hS4).mono ?_
      rintro e w5 ⟨rfl,hb5⟩;rw [show ((k:Int)+(width:Int)).toNat=k+width from by omega]
      have hgl:=Lx.gap_le (s.data.toList.drop (k+width));rw [List.length_drop,← q0l] at hgl;have hfin:=HFIN.out;rw [List.drop_drop,List.drop_drop] at hfin;have HFIN2:=Lib.hid hfin;clear hfin HFIN;generalize Lx.gap (s.data.toList.drop (k+width))=gg at *
      have HB5:=Lib.hid hb5;clear hb5 hS4
      go_wp2
      go_roundw
      case rel =>
       refine ⟨⟨A',c',k+width+gg,f,l++[Lx.Sc.tok ⟨0,kind,n,text,width⟩ k],?_,by go_num,by omega,?_,?_,by omega,?_⟩,HBEL4.out.trans (HB5.out.mono hz4)⟩
       ·rw [List.length_append];rfl
       ·rw [List.length_append];exact hlenb
       ·have h5:=q6l HOWN4.out HB5.out
        rw [qjm,List.length_append];exact h5
       ·rw [← HFIN2.out]
      case measure=>simp [intOf];omega
    ·rw [if_neg he]
     have hfin:=h2 he;rw [hlx] at hfin;have HFIN:=Lib.hid hfin;have he':(err==0)=false:=by rw [beq_eq_false_iff_ne];exact he
     have he'':(err != 0)=true:=by rw [bne_iff_ne];exact he
     clear hfin hlx h1 h2 h3 he hw hq2;have HB3:=Lib.hid hb3;clear hb3
     go_wp2
     go_ret3
     refine ⟨.slice none 0 0,?_,?_,?_⟩
     ·rw [HFIN.out];rfl
     ·rw [HFIN.out];exact ⟨rfl,.inl ⟨rfl,rfl⟩⟩
     ·exact HW0.out.trans ((HBR.out.trans ((q0c HB3.out _).mono hszr)).mono HW0.out.size)
   ·have hk2:k=s.size:=by omega
    have hd:s.data.toList.drop k=[]:=List.drop_eq_nil_of_le (by rw [← q0l];omega)
    have hfin:=HLEX.out;rw [hd,Lx.lexAt_nil] at hfin;have HFIN:=Lib.hid hfin;clear hfin hd HLEX;have HK2:=Lib.hid hk2;clear hk2
    go_wp2
    go_ret3
    refine ⟨.slice A l.length c,?_,?_,HW0.out.trans (HBR.out.mono HW0.out.size)⟩
    ·rw [← HFIN.out];rfl
    ·rw [← HFIN.out]
     exact q98 HOWN.out HW0.out.size
end Go.Proofs.YtnpkpehlncnkgaaGreatDoor
set_option linter.unusedVariables false
namespace Go.Proofs.YtnpkpehlncnkgaaGreatDoor
open Go.RowKit R Geo.Zn
set_option maxRecDepth 100000 in
theorem qec:cOn.Holds Tryz.prog:=by
 refine q0y (cons:=[]) Tryz.func24 (by kernel_rfl) (by kernel_rfl) mixed (by kernel_rfl) all_nil (λ_=>[]) λp hp=>?_
 obtain ⟨x,y⟩:=p;refine cast ?_ (on_vc x y)
 kernel_rfl
set_option maxRecDepth 100000 in
theorem qbi:cOnL.Holds Tryz.prog:=by
 refine q0y (cons:=[cOn]) Tryz.func113 (by kernel_rfl) (by kernel_rfl) mixed (by kernel_rfl) (all_cons qec all_nil) (λp=>anOnL p) λp hp=>?_
 refine cast ?_ (onL_vc p hp)
 kernel_rfl
set_option maxRecDepth 100000 in
theorem qa0:cFrom.Holds Tryz.prog:=by
 refine q0y (cons:=[]) Tryz.func117 (by kernel_rfl) (by kernel_rfl) mixed (by kernel_rfl) all_nil (λ_=>[]) λp hp=>?_
 obtain ⟨⟨a,b⟩,c,d⟩:=p;refine cast ?_ (from_vc a b c d hp)
 kernel_rfl
set_option maxRecDepth 100000 in
theorem qhr:cAlong.Holds Tryz.prog:=by
 refine q0y (cons:=[]) Tryz.func118 (by kernel_rfl) (by kernel_rfl) mixed (by kernel_rfl) all_nil (λ_=>[]) λp hp=>?_
 obtain ⟨⟨a,b⟩,c,d⟩:=p;refine cast ?_ (along_vc a b c d hp)
 kernel_rfl
set_option maxRecDepth 100000 in
theorem area_holds:cArea.Holds Tryz.prog:=by
 refine q0y (cons:=[]) Tryz.func136 (by kernel_rfl) (by kernel_rfl) mixed (by kernel_rfl) all_nil (λ_=>[]) λp hp=>?_
 obtain ⟨⟨a,b⟩,c,d⟩:=p;refine cast ?_ (area_vc a b c d hp)
 kernel_rfl
set_option maxRecDepth 100000 in
theorem qeg:cOpen.Holds Tryz.prog:=by
 refine q0y (cons:=[cFrom]) Tryz.func114 (by kernel_rfl) (by kernel_rfl) mixed (by kernel_rfl) (all_cons qa0 all_nil) (λ_=>[]) λp hp=>?_
 obtain ⟨⟨a,b⟩,c,d⟩:=p;refine cast ?_ (open_vc a b c d hp)
 kernel_rfl
set_option maxRecDepth 100000 in
theorem qdg:cSide.Holds Tryz.prog:=by
 refine q0y (cons:=[cFrom,cArea]) Tryz.func115 (by kernel_rfl) (by kernel_rfl) mixed (by kernel_rfl) (all_cons qa0 (all_cons area_holds all_nil)) (λ_=>[]) λp hp=>?_
 obtain ⟨⟨a,b,c,d,e,f⟩,x,y⟩:=p;refine cast ?_ (side_vc a b c d e f x y hp)
 kernel_rfl
set_option maxRecDepth 100000 in
theorem turn_holds:cTurn.Holds Tryz.prog:=by
 refine q0y (cons:=[cOnL,cOpen,cSide]) Tryz.func81 (by kernel_rfl) (by kernel_rfl) mixed (by kernel_rfl) (all_cons qbi (all_cons qeg (all_cons qdg all_nil))) (λ_=>[]) λp hp=>?_
 obtain ⟨⟨a,b⟩,⟨c,d⟩,x,y⟩:=p;refine cast ?_ (turn_vc a b c d x y)
 kernel_rfl
set_option maxRecDepth 100000 in
theorem dist_holds:cDist.Holds Tryz.prog:=by
 refine q0y (cons:=[cOnL,cFrom,cAlong]) Tryz.func90 (by kernel_rfl) (by kernel_rfl) mixed (by kernel_rfl) (all_cons qbi (all_cons qa0 (all_cons qhr all_nil))) (λ_=>[]) λp hp=>?_
 obtain ⟨⟨a,b⟩,c,d⟩:=p;refine cast ?_ (dist_vc a b c d)
 kernel_rfl
set_option maxRecDepth 100000 in
theorem bet_holds:cBet.Holds Tryz.prog:=by
 refine q0y (cons:=[cOnL,cOpen,cSide,cFrom,cAlong]) Tryz.func87 (by kernel_rfl) (by kernel_rfl) mixed (by kernel_rfl) (all_cons qbi (all_cons qeg (all_cons qdg (all_cons qa0 (all_cons qhr all_nil))))) (λ_=>[]) λp hp=>?_
 obtain ⟨⟨x,y⟩,⟨a,b⟩,c,d⟩:=p;refine cast ?_ (bet_vc x y a b c d)
 kernel_rfl
theorem fSide_holds:fSide.Holds Tryz.prog:=by
 refine ⟨⟨_,Tryz.func115,by kernel_rfl,by kernel_rfl⟩,λp b vs fvs w S hS hp hvs hfa=>?_⟩
 have hfa:fvs=[]:=hfa;subst hfa;rw [List.append_nil];refine Calls.mono (qdg.2 p vs w S hS hp hvs) ?_;rintro e w' ⟨r,v,rfl,hr,hv,hbl⟩;have hr:r=q11 p.1 p.2:=hr;subst hr;exact ⟨hbl,v,rfl,hv⟩
theorem kitCr_ok:kitCr.Ok Tryz.prog where
 cons:=all_cons qbi (all_cons qeg (all_cons bet_holds all_nil))
 ns:=all_nil
 os:=all_nil
 fcs:=all_cons fSide_holds all_nil
 rcs:=all_nil
 inls:=q0f.more Tryz.func116 (by kernel_rfl) (by kernel_rfl) q0f.nil
set_option maxRecDepth 100000000 in
theorem qi2:cCross.Holds Tryz.prog:=by
 refine q5i (T:=kitCr) (λp=>anCrI p.1 p.2.1 p.2.2.1 p.2.2.2) Tryz.func82 (by kernel_rfl) (by kernel_rfl) mixed (by kernel_rfl) kitCr_ok (λ_=>[joinAt 1 [4,5,6,7,8,9,10]]) λp hp=>?_
 obtain ⟨⟨a,b⟩,⟨c,d⟩,⟨e,f⟩,x,y⟩:=p;refine cast ?_ (cross_vc a b c d e f x y hp)
 kernel_rfl
end Go.Proofs.YtnpkpehlncnkgaaGreatDoor
namespace Go.Proofs.YtnpkpehlncnkgaaGreatDoor
namespace Zl
open Geo Geo.Zn
abbrev z0:P2:=((0:Int),(0:Int))
def UpTo (f:P2→Int) (L:List P2) (k:Nat):Prop:=∀ m n,m<n→n<k→f (L.getD m z0)≤f (L.getD n z0)
def InsAt (f:P2→Int) (O L:List P2) (i j:Nat):Prop:=L.Perm O∧j≤i∧i<L.length∧(∀ m n,m<n→n≤i→m≠j→n≠j→f (L.getD m z0)≤f (L.getD n z0))∧∀ n,j<n→n≤i→f (L.getD j z0)≤f (L.getD n z0)
def swapL (L:List P2) (j:Nat):List P2:=(L.set j (L.getD (j-1) z0)).set (j-1) (L.getD j z0)
theorem qg7 (L:List P2) (i k:Nat) (x:P2) (hi:i<L.length):(L.set i x).getD k z0=if k=i then x else L.getD k z0:=by
 rw [List.getD_eq_getElem?_getD,List.getElem?_set];by_cases h:i=k
 ·subst h;rw [if_pos rfl,if_pos hi,if_pos rfl];rfl
 ·rw [if_neg h,if_neg (λe=>h e.symm),List.getD_eq_getElem?_getD]
theorem qe8 (L:List P2) {j:Nat} (hj:j<L.length) (h0:0<j) (k:Nat):(swapL L j).getD k z0=if k=j-1 then L.getD j z0 else if k=j then L.getD (j-1) z0 else L.getD k z0:=by
 unfold swapL;rw [qg7 _ _ _ _ (by rw [List.length_set];omega),qg7 _ _ _ _ hj]
theorem swap_len (L:List P2) (j:Nat):(swapL L j).length=L.length:=by
 unfold swapL;rw [List.length_set,List.length_set]
theorem swap_perm (L:List P2) {j:Nat} (hj:j<L.length) (h0:0<j):(swapL L j).Perm L:=by
 rw [List.perm_iff_count];intro a;unfold swapL;have hj1:j-1<L.length:=by omega
 rw [List.count_set (by rw [List.length_set];exact hj1),List.count_set hj]
 have e1:(L.set j (L.getD (j-1) z0))[j-1]'(by rw [List.length_set];exact hj1)=L[j-1]:=by rw [List.getElem_set,if_neg (by omega)]
 rw [e1];have e2:L.getD j z0=L[j]:=by rw [List.getD_eq_getElem?_getD,List.getElem?_eq_getElem hj];rfl
 have e3:L.getD (j-1) z0=L[j-1]:=by rw [List.getD_eq_getElem?_getD,List.getElem?_eq_getElem hj1];rfl
 rw [e2,e3];have hp1:L[j]==a→0<L.count a:=λh=>List.count_pos_iff.2 (by rw [← eq_of_beq h];exact List.getElem_mem hj)
 by_cases h1:L[j]==a <;> by_cases h2:L[j-1]==a <;> simp only [h1,h2,if_true,if_false,Bool.false_eq_true]
 ·have:=hp1 h1;omega
 ·have:=hp1 h1;omega
 ·omega
 ·omega
theorem ins_start {f:P2→Int} {O L:List P2} {i:Nat} (hp:L.Perm O) (hi:i<L.length) (h:UpTo f L i):InsAt f O L i i :=
 ⟨hp,Nat.le_refl _,hi,λm n h1 h2 h3 h4=>h m n h1 (by omega),λn h1 h2=>by omega⟩
theorem ins_step {f:P2→Int} {O L:List P2} {i j:Nat} (h:InsAt f O L i j) (h0:0<j) (hlt:f (L.getD j z0)<f (L.getD (j-1) z0)):InsAt f O (swapL L j) i (j-1):=by
 obtain ⟨hp,hji,hi,h1,h2⟩:=h;have hj:j<L.length:=by omega
 refine ⟨(swap_perm L hj h0).trans hp,by omega,by rw [swap_len];exact hi,λm n hmn hn hm1 hn1=>?_,λn hn1 hn2=>?_⟩
 ·rw [qe8 L hj h0,qe8 L hj h0,if_neg hm1,if_neg hn1]
  by_cases hmj:m=j
  ·rw [if_pos hmj,if_neg (by omega)]
   exact h1 (j-1) n (by omega) hn (by omega) (by omega)
  ·rw [if_neg hmj]
   by_cases hnj:n=j
   ·rw [if_pos hnj]
    exact h1 m (j-1) (by omega) (by omega) hmj (by omega)
   ·rw [if_neg hnj];exact h1 m n hmn hn hmj hnj
 ·rw [qe8 L hj h0,qe8 L hj h0,if_pos rfl,if_neg (by omega)]
  by_cases hnj:n=j
  ·rw [if_pos hnj];omega
  ·rw [if_neg hnj];exact h2 n (by omega) hn2
theorem ins_end {f:P2→Int} {O L:List P2} {i j:Nat} (h:InsAt f O L i j) (he:j=0∨f (L.getD (j-1) z0)≤f (L.getD j z0)):UpTo f L (i+1):=by
 obtain ⟨hp,hji,hi,h1,h2⟩:=h;intro m n hmn hn;by_cases hmj:m=j
 ·subst hmj;exact h2 n hmn (by omega)
 ·by_cases hnj:n=j
  ·subst hnj
   rcases he with he | he
   ·omega
   ·by_cases hm:m=n-1
    ·rw [hm];exact he
    ·exact Int.le_trans (h1 m (n-1) (by omega) (by omega) hmj (by omega)) he
  ·exact h1 m n hmn (by omega) hmj hnj
def q30:P2→List P2→List P2
 | _,[]=>[]
 | x,y::r=>if y==x then q30 y r else y::q30 y r
def q26:List P2→List P2
 | []=>[]
 | x::r=>x::q30 x r
theorem qjh (y:P2):∀ (r:List P2) (x:P2),q30 x (r++[y])=q30 x r++(if y==(x::r).getD r.length z0 then [] else [y])
 | [],x=>by
  show (if y==x then q30 y [] else y::q30 y [])=_
  rfl
 | a::r,x=>by
  have ih:=qjh y r a;show (if a==x then q30 a (r++[y]) else a::q30 a (r++[y]))=(if a==x then q30 a r else a::q30 a r)++(if y==(a::r).getD r.length z0 then [] else [y])
  rw [ih];split <;> rfl
theorem qbq (l:List P2) {k:Nat} (h1:1≤k) (hk:k<l.length):q26 (l.take (k+1))=q26 (l.take k)++(if l.getD k z0==l.getD (k-1) z0 then [] else [l.getD k z0]):=by
 cases l with
 | nil=>cases hk
 | cons x r =>
  have e1:(x::r).take (k+1)=x::(r.take (k-1)++[(x::r).getD k z0]):=by
   rw [q1x (x::r) z0 k hk];obtain ⟨q,rfl⟩:∃ q,k=q+1:=⟨k-1,by omega⟩
   rfl
  have e2:(x::r).take k=x::r.take (k-1):=by
   obtain ⟨q,rfl⟩:∃ q,k=q+1:=⟨k-1,by omega⟩
   rfl
  rw [e1,e2];show x::q30 x (r.take (k-1)++[(x::r).getD k z0])=x::q30 x (r.take (k-1))++_;rw [qjh];have hl:(r.take (k-1)).length=k-1:=by rw [List.length_take];rw [List.length_cons] at hk;omega
  have e3:(x::r.take (k-1)).getD (r.take (k-1)).length z0=(x::r).getD (k-1) z0:=by
   rw [hl,← e2,List.getD_eq_getElem?_getD,List.getD_eq_getElem?_getD,List.getElem?_take,if_pos (by omega)]
  rw [e3];rfl
theorem qfp:∀ (r:List P2) (x:P2),(q30 x r).Sublist r
 | [],x=>List.Sublist.refl _
 | y::r,x=>by
  show (if y==x then q30 y r else y::q30 y r).Sublist _
  split
  ·exact (qfp r y).cons _
  ·exact (qfp r y).cons_cons _
theorem comp_sub (l:List P2):(q26 l).Sublist l:=by
 cases l with
 | nil=>exact List.Sublist.refl _
 | cons x r=>exact (qfp r x).cons_cons _
theorem compF_mem:∀ (r:List P2) (x p:P2),p∈r→p=x∨p∈q30 x r
 | y::r,x,p,h=>by
  show p=x∨p∈(if y==x then q30 y r else y::q30 y r)
  rcases List.mem_cons.1 h with e | h
  ·by_cases c:y==x
   ·exact .inl (e.trans (eq_of_beq c))
   ·rw [if_neg c];exact .inr (List.mem_cons.2 (.inl e))
  ·rcases compF_mem r y p h with e | h
   ·by_cases c:y==x
    ·exact .inl (e.trans (eq_of_beq c))
    ·rw [if_neg c];exact .inr (List.mem_cons.2 (.inl e))
   ·right
    split
    ·exact h
    ·exact List.mem_cons_of_mem _ h
theorem qan (l:List P2) (p:P2):p∈q26 l↔p∈l:=by
 refine ⟨λh=>(comp_sub l).subset h,λh=>?_⟩
 cases l with
 | nil=>exact h
 | cons x r =>
  rcases List.mem_cons.1 h with e | h
  ·exact List.mem_cons.2 (.inl e)
  ·rcases compF_mem r x p h with e | h
   ·exact List.mem_cons.2 (.inl e)
   ·exact List.mem_cons_of_mem _ h
theorem compF_up {f:P2→Int}:∀ (r:List P2) (x:P2),(x::r).Pairwise (λp q=>f p≤f q)→(∀ p∈x::r,∀ q∈x::r,f p=f q→p=q)→(x::q30 x r).Pairwise (λp q=>f p<f q)
 | [],x,_,_=>List.pairwise_singleton _ _
 | y::r,x,h,hinj=>by
  have h2:(y::r).Pairwise (λp q=>f p≤f q):=(List.pairwise_cons.1 h).2
  have ih:=compF_up r y h2 (λp hp q hq=>hinj p (List.mem_cons_of_mem _ hp) q (List.mem_cons_of_mem _ hq))
  have hxy:=(List.pairwise_cons.1 h).1 y (List.mem_cons_self ..);show (x::(if y==x then q30 y r else y::q30 y r)).Pairwise _
  by_cases c:y==x
  ·rw [if_pos c]
   obtain rfl:=eq_of_beq c;exact ih
  ·rw [if_neg c]
   have hlt:f x<f y:=by
    rcases Int.lt_or_eq_of_le hxy with h | h
    ·exact h
    ·exact absurd (hinj y (List.mem_cons_of_mem _ (List.mem_cons_self ..)) x (List.mem_cons_self ..) h.symm) (by simpa using c)
   refine List.pairwise_cons.2 ⟨λq hq=>?_,ih⟩
   rcases List.mem_cons.1 hq with e | hq
   ·rw [e];exact hlt
   ·exact Int.lt_trans hlt ((List.pairwise_cons.1 ih).1 q hq)
theorem comp_up {f:P2→Int} (l:List P2) (h:l.Pairwise (λp q=>f p≤f q)) (hinj:∀ p∈l,∀ q∈l,f p=f q→p=q):(q26 l).Pairwise (λp q=>f p<f q):=by
 cases l with
 | nil=>exact List.Pairwise.nil
 | cons x r=>exact compF_up r x h hinj
theorem up_pairwise {f:P2→Int} {L:List P2} (h:UpTo f L L.length):L.Pairwise (λp q=>f p≤f q):=by
 rw [List.pairwise_iff_getElem];intro i j hi hj hij;have:=h i j hij hj
 rwa [List.getD_eq_getElem?_getD,List.getElem?_eq_getElem hi,List.getD_eq_getElem?_getD,List.getElem?_eq_getElem hj] at this
def cutsL (y:List P2) (a b:P2):List P2:=a::b::y.filter λp=>betI p a b
theorem qik {y:List P2} {a b:P2} (ha:onB a=true) (hb:onB b=true) (hab:a≠b) {L:List P2} (hp:L.Perm (cutsL y a b)) (hu:UpTo (q0m a) L L.length):q26 L=q9o y a b:=by
 have hmem:∀ p,p∈L↔p=a∨p=b∨(p∈y∧betI p a b=true):=λp=>by
  rw [hp.mem_iff];unfold cutsL;rw [List.mem_cons,List.mem_cons,List.mem_filter]
 have on:∀ p∈L,onB p=true∧OnS (pt a) (pt b) (pt p):=λp h=>by
  have hbet:betI p a b=true:=by
   rcases (hmem p).1 h with rfl | rfl | ⟨_,h⟩
   ·unfold betI;simp [ha,hb]
   ·unfold betI;simp [ha,hb]
   ·exact h
  exact ⟨q9d hbet,(q2p (q9d hbet) ha hb hab).1 hbet⟩
 refine stops_eq ha hb hab ⟨comp_up L (up_pairwise hu) λp h1 q h2 e=>seg_inj ha hab (on p h1).1 (on q h2).1 (on p h1).2 (on q h2).2 e,λp=>?_⟩
 rw [qan,hmem]
theorem qeh:∀ l:List P2,(q3i l).length=l.length-1
 | []=>rfl
 | [_]=>rfl
 | p::q::r=>by
  show ((p.1+q.1,p.2+q.2)::q3i (q::r)).length=_;rw [List.length_cons,qeh (q::r)];simp
theorem mids_get:∀ (l:List P2) (k:Nat),k+1<l.length→(q3i l).getD k z0=((l.getD k z0).1+(l.getD (k+1) z0).1,(l.getD k z0).2+(l.getD (k+1) z0).2)
 | [],k,h=>by simp at h
 | [_],k,h=>by simp at h
 | p::q::r,0,h=>rfl
 | p::q::r,k+1,h=>mids_get (q::r) k (by simp at h ⊢;omega)
theorem mids_take (l:List P2) {k:Nat} (h:k+1<l.length):(q3i l).take (k+1)=(q3i l).take k++[((l.getD k z0).1+(l.getD (k+1) z0).1,(l.getD k z0).2+(l.getD (k+1) z0).2)]:=by
 rw [q1x _ z0 k (by rw [qeh];omega),mids_get l k h]
def q9z (x y:List P2) (i:Nat):List P2:=(List.range i).flatMap λi=>q3i (q9o y (rAt x i) (rAt x (i+1)))
theorem qju (x y:List P2) (i:Nat):q9z x y (i+1)=q9z x y i++q3i (q9o y (rAt x i) (rAt x (i+1))):=by
 unfold q9z;rw [List.range_succ,List.flatMap_append];simp
def twoOf:List Bool→Prop
 | a::b::c::r=>(a&&b&&c)=false∧twoOf (b::c::r)
 | _=>True
theorem two_count:∀ l:List Bool,twoOf l→l.count true≤2*(l.length / 3)+l.length % 3
 | [],_=>Nat.zero_le _
 | [a],_=>by cases a <;> decide
 | [a,b],_=>by cases a <;> cases b <;> decide
 | a::b::c::r,h=>by
  have hr:twoOf r:=by
   have h1:=h.2
   match r,h1 with
   | [],_=>trivial
   | [x],_=>trivial
   | x::y::q,h1=>exact h1.2.2
  have ih:=two_count r hr;have h3:(a::b::c::r).count true≤2+r.count true:=by
   have:=h.1
   cases a <;> cases b <;> cases c <;> simp_all <;> omega
  simp only [List.length_cons] at *
  omega
theorem line_three {a b p q r:P2} (hab:a≠b) (hp:q1p a b p=0) (hq:q1p a b q=0) (hr:q1p a b r=0):q1p p q r=0:=by
 unfold q1p at *
 obtain ⟨a1,a2⟩:=a;obtain ⟨b1,b2⟩:=b;obtain ⟨p1,p2⟩:=p;obtain ⟨q1,q2⟩:=q;obtain ⟨r1,r2⟩:=r;simp only at *
 have hne:b1-a1≠0∨b2-a2≠0:=by
  by_cases h:b1-a1=0
  ·by_cases h':b2-a2=0
   ·exact absurd (by rw [show a1=b1 by omega,show a2=b2 by omega]) hab
   ·exact .inr h'
  ·exact .inl h
 have k1:(b1-a1)*((q1-p1)*(r2-p2)-(q2-p2)*(r1-p1))=0:=by grind
 have k2:(b2-a2)*((q1-p1)*(r2-p2)-(q2-p2)*(r1-p1))=0:=by grind
 rcases hne with h | h
 ·exact (Int.mul_eq_zero.1 k1).resolve_left h
 ·exact (Int.mul_eq_zero.1 k2).resolve_left h
theorem qit {p a b:P2} (h:betI p a b=true):q1p a b p=0:=by
 unfold betI at h;simp only [Bool.and_eq_true,Bool.or_eq_true,beq_iff_eq,decide_eq_true_eq] at h;rcases h.2 with (e | e) | h
 ·rw [e];unfold q1p;simp
 ·rw [e];unfold q1p;grind
 ·exact h.1
theorem two_map (f:P2→Bool):∀ l:List P2,(∀ i,i+2<l.length→(f (l.getD i z0)&&f (l.getD (i+1) z0)&&f (l.getD (i+2) z0))=false)→twoOf (l.map f)
 | [],_=>trivial
 | [_],_=>trivial
 | [_,_],_=>trivial
 | a::b::c::r,h=>⟨h 0 (by simp),two_map f (b::c::r) λi hi=>h (i+1) (by simp at hi ⊢;omega)⟩
theorem qfi (f:P2→Bool):∀ l:List P2,(l.map f).count true=(l.filter f).length
 | []=>rfl
 | x::r=>by
  have ih:=qfi f r;rw [List.map_cons,List.count_cons,List.filter_cons,ih];cases f x <;> simp
theorem cuts_few {y:List P2} (hv:q0e y=true) (h12:y.length≤12) {a b:P2} (hab:a≠b):(cutsL y a b).length≤12:=by
 have hy:=q4b hv;have key:∀ i,i+2<y.length→((betI (y.getD i z0) a b&&betI (y.getD (i+1) z0) a b&&betI (y.getD (i+2) z0) a b))=false:=λi hi=>by
  rw [at0 y (show i<y.length by omega),at0 y (show i+1<y.length by omega),at0 y (show i+2<y.length by omega)]
  rw [← Bool.not_eq_true];intro h;simp only [Bool.and_eq_true] at h;exact hy.q44 i (line_three hab (qit h.1.1) (qit h.1.2) (qit h.2))
 have h:=two_count _ (two_map (λp=>betI p a b) y key)
 rw [qfi,List.length_map] at h;show ((y.filter λp=>betI p a b).length+1)+1≤12
 omega
def CoAt (l c:List P2) (k kk k2:Nat):Prop:=1≤k∧k<l.length∧1≤k2∧k+k2≤l.length∧kk+1≤k+k2∧1≤kk∧c.length=l.length∧c.drop kk=l.drop kk∧c.take kk=q26 (l.take (k+k2))
theorem co_start {l:List P2} {k:Nat} (h1:1≤k) (hk:k<l.length) (hc:q26 (l.take k)=l.take k) (he:(l.getD k z0==l.getD (k-1) z0)=true):CoAt l l k k 1 :=
 ⟨h1,hk,Nat.le_refl _,by omega,Nat.le_refl _,h1,rfl,rfl,by rw [qbq l h1 hk,hc,if_pos he,List.append_nil]⟩
theorem q1r {l c:List P2} {kk i:Nat} (h:c.drop kk=l.drop kk) (hi:kk≤i):c.getD i z0=l.getD i z0:=by
 have:=congrArg (λq=>q[i-kk]?) h
 simp only [List.getElem?_drop] at this;rw [show kk+(i-kk)=i by omega] at this
 rw [List.getD_eq_getElem?_getD,List.getD_eq_getElem?_getD,this]
theorem co_keep {l c:List P2} {k kk k2:Nat} (h:CoAt l c k kk k2) (h2:k+k2<l.length) (he:(c.getD (k+k2) z0==c.getD (k+k2-1) z0)=false):CoAt l (c.set kk (c.getD (k+k2) z0)) k (kk+1) (k2+1):=by
 obtain ⟨a1,a2,a3,a4,a5,a6,a7,a8,a9⟩:=h;rw [q1r a8 (show kk≤k+k2 by omega),q1r a8 (show kk≤k+k2-1 by omega)] at he
 rw [q1r a8 (show kk≤k+k2 by omega)]
 refine ⟨a1,a2,by omega,by omega,by omega,by omega,by rw [List.length_set];exact a7,?_,?_⟩
 ·rw [List.drop_set_of_lt (by omega)]
  have:=congrArg (List.drop 1) a8
  rwa [List.drop_drop,List.drop_drop] at this
 ·rw [show k+(k2+1)=(k+k2)+1 by omega,qbq l (show 1≤k+k2 by omega) h2,he,← a9]
  rw [q1x _ z0 kk (by rw [List.length_set];omega),List.take_set_of_le (Nat.le_refl _),qg7 _ _ _ _ (by omega),if_pos rfl]
  rfl
theorem co_skip {l c:List P2} {k kk k2:Nat} (h:CoAt l c k kk k2) (h2:k+k2<l.length) (he:(c.getD (k+k2) z0==c.getD (k+k2-1) z0)=true):CoAt l c k kk (k2+1):=by
 obtain ⟨a1,a2,a3,a4,a5,a6,a7,a8,a9⟩:=h;rw [q1r a8 (show kk≤k+k2 by omega),q1r a8 (show kk≤k+k2-1 by omega)] at he
 refine ⟨a1,a2,by omega,by omega,by omega,a6,a7,a8,?_⟩
 rw [show k+(k2+1)=(k+k2)+1 by omega,qbq l (show 1≤k+k2 by omega) h2,he,← a9]
 simp
theorem co_end {l c:List P2} {k kk k2:Nat} (h:CoAt l c k kk k2) (h2:l.length≤k+k2) (r:List P2):(c.take kk++r).take kk=q26 l:=by
 obtain ⟨a1,a2,a3,a4,a5,a6,a7,a8,a9⟩:=h;have hl:(c.take kk).length=kk:=by rw [List.length_take];omega
 rw [List.take_append_of_le_length (by omega),List.take_of_length_le (by omega),a9,List.take_of_length_le h2]
theorem qj1 (a b:P2):0≤q0m a b∧q0m a b≤2147352578:=by
 unfold q0m;split
 ·rename_i h
  rw [Bool.and_eq_true] at h;have h1:=q1i h.1;have h2:=q1i h.2;have m1:=q3k (a:=b.1-a.1) (b:=b.1-a.1) (by omega) (by omega) (by omega) (by omega)
  have m2:=q3k (a:=b.2-a.2) (b:=b.2-a.2) (by omega) (by omega) (by omega) (by omega)
  have n1:0≤(b.1-a.1)*(b.1-a.1):=by
   rcases Int.le_total 0 (b.1-a.1) with h | h
   ·exact Int.mul_nonneg h h
   ·exact Int.mul_nonneg_of_nonpos_of_nonpos h h
  have n2:0≤(b.2-a.2)*(b.2-a.2):=by
   rcases Int.le_total 0 (b.2-a.2) with h | h
   ·exact Int.mul_nonneg h h
   ·exact Int.mul_nonneg_of_nonpos_of_nonpos h h
  omega
 ·omega
theorem two_of_ne {l:List P2} {a b:P2} (ha:a∈l) (hb:b∈l) (hab:a≠b):2≤l.length:=by
 match l,ha,hb with
 | [x],ha,hb=>exact absurd ((List.mem_singleton.1 ha).trans (List.mem_singleton.1 hb).symm) hab
 | x::y::r,_,_=>simp
theorem qin (l:List P2):q26 (l.take 1)=l.take 1:=by
 cases l <;> rfl
theorem stops_len {y:List P2} (hv:q0e y=true) (h12:y.length≤12) {a b:P2} {L:List P2} (hab:a≠b) (hp:L.Perm (cutsL y a b)):(q26 L).length≤12:=by
 have h1:=(comp_sub L).length_le;have h2:=cuts_few hv h12 hab;rw [hp.length_eq] at h1;omega
theorem ins_stops (y:List P2) (a b:P2):∃ L:List P2,L.Perm (cutsL y a b)∧UpTo (q0m a) L L.length:=by
 refine ⟨(cutsL y a b).mergeSort λp q=>decide (q0m a p≤q0m a q),List.mergeSort_perm _ _,?_⟩
 have hs:=List.pairwise_mergeSort (le:=λp q:P2=>decide (q0m a p≤q0m a q)) (λp q r h1 h2=>decide_eq_true (Int.le_trans (of_decide_eq_true h1) (of_decide_eq_true h2))) (λp q=>by
  rcases Int.le_total (q0m a p) (q0m a q) with h | h
  ·rw [decide_eq_true h];rfl
  ·rw [decide_eq_true h,Bool.or_true]) (cutsL y a b)
 rw [List.pairwise_iff_getElem] at hs;intro m n hmn hn;have:=of_decide_eq_true (hs m n (by omega) hn hmn)
 rwa [List.getD_eq_getElem?_getD,List.getElem?_eq_getElem (by omega),List.getD_eq_getElem?_getD,List.getElem?_eq_getElem hn]
theorem qf6 {x y:List P2} (hvx:q0e x=true) (hvy:q0e y=true) (h12:y.length≤12):∀ i,(q9z x y i).length≤i*12
 | 0=>by simp [q9z]
 | i+1=>by
  have ih:=qf6 hvx hvy h12 i;have hx:=q4b hvx;obtain ⟨L,h1,h2⟩:=ins_stops y (rAt x i) (rAt x (i+1));have h3:=qik (hx.on' i) (hx.on' (i+1)) (hx.ne i) h1 h2;have h4:=stops_len hvy h12 (hx.ne i) h1;rw [qju,List.length_append,qeh,← h3];omega
theorem mids_from:∀ (l:List P2) (m:P2),m∈q3i l→∃ p q,p∈l∧q∈l∧m=(p.1+q.1,p.2+q.2)
 | [],m,h=>by cases h
 | [_],m,h=>by cases h
 | p::q::r,m,h=>by
  have h:m∈(p.1+q.1,p.2+q.2)::q3i (q::r):=h;rcases List.mem_cons.1 h with e | h
  ·exact ⟨p,q,List.mem_cons_self ..,List.mem_cons_of_mem _ (List.mem_cons_self ..),e⟩
  ·obtain ⟨p',q',h1,h2,e⟩:=mids_from (q::r) m h
   exact ⟨p',q',List.mem_cons_of_mem _ h1,List.mem_cons_of_mem _ h2,e⟩
def q28 (p:P2):Prop:=(0≤p.1∧p.1≤65534)∧(0≤p.2∧p.2≤65534)
theorem qdw {x y:List P2} (hvx:q0e x=true) (hvy:q0e y=true) {m:P2} (h:m∈q03 x y):q28 m:=by
 have hx:=q4b hvx;unfold q03 at h;rw [List.mem_flatMap] at h;obtain ⟨i,_,h⟩:=h;obtain ⟨p,q,hp,hq,rfl⟩:=mids_from _ _ h;obtain ⟨L,h1,h2⟩:=ins_stops y (rAt x i) (rAt x (i+1));have h3:=qik (hx.on' i) (hx.on' (i+1)) (hx.ne i) h1 h2;have on:∀ p∈q9o y (rAt x i) (rAt x (i+1)),onB p=true:=λp hp=>by
  rw [← h3,qan,h1.mem_iff] at hp;rcases List.mem_cons.1 hp with e | hp
  ·rw [e];exact hx.on' i
  ·rcases List.mem_cons.1 hp with e | hp
   ·rw [e];exact hx.on' (i+1)
   ·exact q9d (List.mem_filter.1 hp).2
 have o1:=q1i (on p hp);have o2:=q1i (on q hq);unfold q28;dsimp only;omega
theorem dbl_half {p:P2} (h:onB p=true):q28 (dbl p):=by
 have:=q1i h
 unfold q28 dbl;dsimp only;omega
theorem qh0 {x y:List P2} (hvx:q0e x=true) (hvy:q0e y=true) (h12:y.length≤12):(q03 x y).length≤480:=by
 have h:=qf6 hvx hvy h12 x.length;have h2:=(q5q hvx).2.1;have:(q03 x y).length≤x.length*12:=h;omega
theorem qdo (l:List P2) (f:P2→Bool) (hl:l.length≤1000000) {Pre:P2→Prop} (hpre:∀ m∈l,Pre m) {A:Nat→Prop} (hA:∀ p,p<l.length→f (l.getD p z0)=true→A p) {B:Prop} (hB:l.any f=false→B) :
  (∃ p':Nat,(p'≤l.length∧(l.take p').any f=false)∧(0:Int)=(p':Int))∧∀ p:Nat,p≤l.length∧(l.take p).any f=false →
   bif decide ((p:Int)<(l.length:Int)) then ((0:Int)≤(p:Int)∧(p:Int)<(l.length:Int))∧Pre (l.getD (p:Int).toNat z0)∧(bif f (l.getD (p:Int).toNat z0) then A p else
    ((-9223372036854775808:Int)≤(p:Int)+1∧(p:Int)+1≤(9223372036854775807:Int))∧∃ p':Nat,(p'≤l.length∧(l.take p').any f=false)∧l.length-p'<l.length-p∧(p:Int)+1=(p':Int)) else B:=by
 refine ⟨⟨0,⟨Nat.zero_le _,rfl⟩,rfl⟩,?_⟩;rintro p ⟨hp,ha⟩;rw [Int.toNat_natCast];cases hb:decide ((p:Int)<(l.length:Int))
 ·have:p=l.length:=by have:=of_decide_eq_false hb;omega
  subst this;rw [List.take_length] at ha;exact hB ha
 ·have hlt:p<l.length:=by have:=of_decide_eq_true hb;omega
  refine ⟨by omega,hpre _ (q1v l z0 p hlt),?_⟩
  cases hf:f (l.getD p z0)
  ·refine ⟨by omega,p+1,⟨by omega,?_⟩,by omega,by omega⟩
   rw [any_step l z0 f p hlt,ha,hf];rfl
  ·exact hA p hlt hf
end Zl
end Go.Proofs.YtnpkpehlncnkgaaGreatDoor
namespace Go.Proofs.YtnpkpehlncnkgaaGreatDoor
open Go.RowKit
open R Geo.Zn
def q1h (r:List P2):Prop:=r.length≤40∧r.all onB=true
open Zl (sumTo q28)
def twAt (r:List P2) (i:Nat):Int:=(rAt r i).1*(rAt r (i+1)).2-(rAt r (i+1)).1*(rAt r i).2
def cOff:Con:=.of 47 [ckPt] [q10] (λ_=>True) (λp=>!onB p)
def cTwice:Con:=.of 56 [q39] [q0s] q1h twiceI
def cSimple:Con:=.of 57 [q39] [q10] (λr=>q1h r∧3≤List.length r) q59
def cRing:Con:=.of 35 [q39] [q10] (λr=>List.length r≤1000) q0e
def cHalf:Con:=.of 70 [q39,ckPt] [q0s,q10] (λq=>q1h q.1∧q28 q.2) (λq=>(qa7 q.1 q.2,onI q.1 q.2))
def cInside:Con:=.of 49 [q39,ckPt] [q10] (λq=>q1h q.1∧q28 q.2) (λq=>q17 q.1 q.2)
def qiv:Con:=.of 48 [q39,ckPt] [q10] (λq=>q1h q.1∧q28 q.2) (λq=>q0p q.1 q.2)
def qiy:Con:=.of 65 [q39,q39] [q10] (λq=>q1h q.1∧q1h q.2) (λq=>q3r q.1 q.2)
noncomputable def qe9:List (Nat×Func):=[(80,Tryz.f80),(112,Tryz.f112)]
noncomputable def kitTw:Kit:={ inls:=qe9 }
def anSides (ι:Type) (r:List P2) (sav lp box:List Nat) (bover:Nat→ι→List (Nat×List Cell)) (rows:Nat→ι→List (Nat×Row)) (inv:St→Nat→ι→Prop):List (Nat×Ann) :=
  [annX 0 (Nat×ι) (λst p=>st.hd { live:=[0,1,5,6],sav:=sav,box:=box,lp:=lp } [(7,R.int .i64 p.1)] (bover p.1 p.2) (rows p.1 p.2) [] none) (λst p=>p.1≤r.length∧inv st p.1 p.2) (λ_ p=>r.length-p.1),
   midAt 3]
def anTw (r:List P2):Nat→List (Nat×Ann):=λf=>bif Nat.beq f 112 then
 anSides Unit r (savK 0 [(24,[3])]) [3] [8001] (λk _=>[(3,[.val (.int .i64) (sumTo (twAt r) k)])]) (λ_ _=>[]) (λ_ _ _=>True) else []
def SiAt (r:List P2) (i j:Nat):Prop:=i<r.length∧i+2≤j∧(j≤min r.length (i+r.length-1)∨j=i+2)∧q8z (rAt r i) (rAt r (i+1)) (rAt r (i+2))≠0∧∀ k,i+2≤k→k<j→¬ 0<q1b (rAt r i) (rAt r (i+1)) (rAt r k) (rAt r (k+1))
def anSi (r:List P2):List (Nat×Ann) :=
  [annX 0 Nat (λst k=>st.hd { live:=[0,3,11],sav:=[],box:=[] } [(12,R.int .i64 k)] [] [] [] none) (λ_ k=>k≤r.length∧(List.range k).all (q3s r)=true) (λ_ k=>r.length-k),
   annX 2 Nat (λst j=>st.hd { live:=[0,3,4,5,6,11,12],sav:=[],box:=[5,6] } [(7,R.int .i64 j)] [] [] [] none)
     (λst j=>SiAt r (st.intOf 4).toNat j)
     (λ_ j=>2*r.length+2-j),
   joinAt 5 [0,3,4,5,6,11,12]]
def fOff:FCon:={ f:=47,args:=[ckPt],fa:=.no,res:=[q10],pre:=λ_ _=>True,F:=λp _=>!onB p }
noncomputable def inlHasR:List (Nat×Func):=[(55,Tryz.f55),(79,Tryz.f79)]
noncomputable def kitVa:Kit:={ cons:=[cTwice,cSimple],fcs:=[fOff],inls:=inlHasR }
def anVa (r:List P2):Nat→List (Nat×Ann):=λf=>bif Nat.beq f 79 then
 [annX 0 Nat (λst k=>st.hd { live:=[0,1,7],sav:=savK 0 [(9,[]),(27,[3,13])],box:=[] } [(8,R.int .i64 k)] [] [] [] none) (λ_ k=>k≤r.length∧(r.take k).all onB=true) (λ_ k=>r.length-k)] else []
def anHa (r:List P2) (p:P2):Nat→List (Nat×Ann):=λf=>bif Nat.beq f 112 then
 anSides Unit r (savK 0 [(91,[3,4,5])]) [3,4,5] [15001,3] (λk _=>[(4,[.val (.int .i64) (sumTo (q19 r p) k)]),(5,[.val .bool ((List.range k).any (onAt r p))])]) (λ_ _=>[]) (λ_ _ _=>True) else []
def anHaB:List (Nat×Ann) :=
 [behindAt 6 Bool (λst q=>st.hd { live:=[3,4,5,9,11,12],sav:=savK 0 [(25,[0,1,5,6,7]),(91,[3,4,5])],box:=[15001,3,4],lp:=[3,4,5] } [] [(5,[.val .bool q])] [] [] none)
  (λst q=>q=(Get.boxB 5 st||(st.intOf 12==0&&decide (st.intOf 8*st.intOf 10+st.intOf 9*st.intOf 11≤0))))]
noncomputable def kitCx:Kit:={ cons:=[cCross],inls:=qe9 }
def qgc (x y:List P2) (i k:Nat):Bool:=q1b (rAt x i) (rAt x (i+1)) (rAt y k) (rAt y (k+1))==2
def anCx (x y:List P2):Nat→List (Nat×Ann):=λf=>bif Nat.beq f 112 then
  [annX 0 Nat (λst k=>bif st.off.beq 1500 then st.hd { live:=[0,1,5,6],sav:=savK 0 [(23,[3,4])],box:=[11001,3,4],lp:=[3,4] } [(7,R.int .i64 k)] [] [] [] none
      else st.hd { live:=[0,1,5,6],sav:=savK 0 [(23,[3,4,5,6]),(25,[0,1,5,6,7]),(23,[3,4])],box:=[11001,3,4,1705,1706,1715001],lp:=[3,4,5,6] } [(7,R.int .i64 k)] [] [] [] none)
    (λst k=>bif st.off.beq 1500 then k≤x.length∧(List.range k).any (λi=>(List.range y.length).any (qgc x y i))=false
      else k≤y.length∧(List.range k).any (λm=>q1b (Get.boxOf kPt 1705 st) (Get.boxOf kPt 1706 st) (rAt y m) (rAt y (m+1))==2)=false)
    (λst k=>bif st.off.beq 1500 then x.length-k else y.length-k),
   midAt 3] else []
end Go.Proofs.YtnpkpehlncnkgaaGreatDoor

/-
  Several texts in one: LexNext, LexNext2, LexClasses, LexNew, LexLex, ZnC, ZrG, ZrH, ZrJ, ZrS, ZrP, ZrN.
-/
import Derived.Test.YtednmlmllbkhhaaGreatDoorPO
import Derived.WalkSmall
import Derived.Lib.SmallJoins
import Derived.Deep.WholeRow
import Derived.Test.YtednmlmllbkhhaaGreatDoorPN
import Derived.Test.YtednmlmllbkhhaaGreatDoorPM
namespace Go.Proofs.YtednmlmllbkhhaaGreatDoor
open Go.RowKit
attribute [local go_sem] q4w q3q q45
namespace Lx
theorem q47 (P:UInt8→Bool) (h:∀ c:Fin 256,P (UInt8.ofNat c.val)=true) (c:UInt8):P c=true:=by
 have h1:=h ⟨c.toNat,UInt8.toNat_lt c⟩
 simpa using h1
theorem q5e (c:UInt8):q19 c=(cls c==3):=by
 simpa using q47 (λc=>q19 c==(cls c==3)) (by decide +kernel) c
theorem q5a (c:UInt8):isDigit c=(cls c==4):=by
 simpa using q47 (λc=>isDigit c==(cls c==4)) (by decide +kernel) c
theorem qa0 (c:UInt8):(c==34)=(cls c==6):=by
 simpa using q47 (λc=>(c==34)==(cls c==6)) (by decide +kernel) c
theorem qe8 (c:UInt8):(c==33)=(cls c==7):=by
 simpa using q47 (λc=>(c==33)==(cls c==7)) (by decide +kernel) c
theorem qck (c:UInt8):(c==60||c==62)=(cls c==8):=by
 have h:=q47 (λc=>(c==60||c==62)==(cls c==8)) (by decide +kernel) c
 rwa [beq_iff_eq] at h
theorem cls_sym (c:UInt8):isSym c=(cls c==9):=by
 simpa using q47 (λc=>isSym c==(cls c==9)) (by decide +kernel) c
theorem cls_word (c:UInt8):isWord c=(cls c==3||cls c==4||cls c==5):=by
 have h:=q47 (λc=>isWord c==(cls c==3||cls c==4||cls c==5)) (by decide +kernel) c
 rwa [beq_iff_eq] at h
theorem scan_letter (c:UInt8) (r:List UInt8) (h:cls c=3) :
  scan (c::r)=if 24<span isWord (c::r) then bad 2 else ⟨0,1,0,(c::r).take (span isWord (c::r)),span isWord (c::r)⟩:=by
 have h1:q19 c=true:=by rw [q5e,h];rfl
 have h2:isWord c=true:=by rw [cls_word,h];rfl
 rw [q4d h2,scan,if_pos h1]
theorem scan_digit (c:UInt8) (r:List UInt8) (h:cls c=4) :
  scan (c::r)=if 13<span isDigit (c::r)||q25 ((c::r).drop (span isDigit (c::r)))==3||q25 ((c::r).drop (span isDigit (c::r)))==5 then bad 4
   else ⟨0,2,qdg ((c::r).take (span isDigit (c::r))),(c::r).take (span isDigit (c::r)),span isDigit (c::r)⟩:=by
 have h1:q19 c=false:=by rw [q5e,h];rfl
 have h2:isDigit c=true:=by rw [q5a,h];rfl
 rw [q4d h2,scan,if_neg (by rw [h1];decide),if_pos h2]
theorem scan_quote (c:UInt8) (r:List UInt8) (h:cls c=6) :
  scan (c::r)=if (r.drop (span q37 r)).head? == some 34 then (if 400<span q37 r then bad 2 else ⟨0,3,0,r.take (span q37 r),span q37 r+2⟩) else bad 6:=by
 have h1:q19 c=false:=by rw [q5e,h];rfl
 have h2:isDigit c=false:=by rw [q5a,h];rfl
 have h3:(c==34)=true:=by rw [qa0,h];rfl
 rw [scan,if_neg (by rw [h1];decide),if_neg (by rw [h2];decide),if_pos h3]
theorem scan_mark (c:UInt8) (r:List UInt8) (h:cls c=7):scan (c::r)=if r.head? == some 61 then ⟨0,4,0,[c,61],2⟩ else bad 3:=by
 have h1:q19 c=false:=by rw [q5e,h];rfl
 have h2:isDigit c=false:=by rw [q5a,h];rfl
 have h3:(c==34)=false:=by rw [qa0,h];rfl
 have h4:(c==33)=true:=by rw [qe8,h];rfl
 have h5:(c==60||c==62)=false:=by rw [qck,h];rfl
 have h6:isSym c=false:=by rw [cls_sym,h];rfl
 rw [scan,if_neg (by rw [h1];decide),if_neg (by rw [h2];decide),if_neg (by rw [h3];decide)]
 simp only [h4,h5,h6,Bool.true_or,Bool.true_and,Bool.or_self,Bool.false_eq_true,if_false]
theorem scan_angle (c:UInt8) (r:List UInt8) (h:cls c=8):scan (c::r)=if r.head? == some 61 then ⟨0,4,0,[c,61],2⟩ else ⟨0,4,0,[c],1⟩:=by
 have h1:q19 c=false:=by rw [q5e,h];rfl
 have h2:isDigit c=false:=by rw [q5a,h];rfl
 have h3:(c==34)=false:=by rw [qa0,h];rfl
 have h4:(c==33)=false:=by rw [qe8,h];rfl
 have h5:(c==60||c==62)=true:=by rw [qck,h];rfl
 rw [scan,if_neg (by rw [h1];decide),if_neg (by rw [h2];decide),if_neg (by rw [h3];decide)]
 simp only [h4,h5,Bool.false_or,Bool.true_or,Bool.true_and,if_true]
theorem scan_sym (c:UInt8) (r:List UInt8) (h:cls c=9):scan (c::r)=⟨0,4,0,[c],1⟩:=by
 have h1:q19 c=false:=by rw [q5e,h];rfl
 have h2:isDigit c=false:=by rw [q5a,h];rfl
 have h3:(c==34)=false:=by rw [qa0,h];rfl
 have h4:(c==33)=false:=by rw [qe8,h];rfl
 have h5:(c==60||c==62)=false:=by rw [qck,h];rfl
 have h6:isSym c=true:=by rw [cls_sym,h];rfl
 rw [scan,if_neg (by rw [h1];decide),if_neg (by rw [h2];decide),if_neg (by rw [h3];decide)]
 simp only [h4,h5,h6,Bool.false_or,Bool.false_and,Bool.false_eq_true,if_false,if_true]
theorem scan_other (c:UInt8) (r:List UInt8) (h3:cls c≠3) (h4:cls c≠4) (h6:cls c≠6) (h7:cls c≠7) (h8:cls c≠8) (h9:cls c≠9):scan (c::r)=bad 3:=by
 have e1:q19 c=false:=by rw [q5e];simpa using h3
 have e2:isDigit c=false:=by rw [q5a];simpa using h4
 have e3:(c==34)=false:=by rw [qa0];simpa using h6
 have e4:(c==33)=false:=by rw [qe8];simpa using h7
 have e5:(c==60||c==62)=false:=by rw [qck];simpa using h8
 have e6:isSym c=false:=by rw [cls_sym];simpa using h9
 rw [scan,if_neg (by rw [e1];decide),if_neg (by rw [e2];decide),if_neg (by rw [e3];decide)]
 simp only [e4,e5,e6,Bool.false_or,Bool.false_and,Bool.false_eq_true,if_false]
theorem qle (l:List UInt8) (h:∀ c∈l,isDigit c=true):∀ a,Lib.decFrom a l=some (l.foldl (λa c=>10*a+(c.toNat-48)) a):=by
 induction l with
 | nil=>intro a;rfl
 | cons c r ih =>
  intro a;have hc:isDigit c=true:=h c (by simp)
  have hd:Lib.digitVal c=some (c.toNat-48):=by
   unfold isDigit at hc;rw [Bool.and_eq_true] at hc;have h1:48≤c:=of_decide_eq_true hc.1;have h2:c≤57:=of_decide_eq_true hc.2;have h1':48≤c.toNat:=h1;have h2':c.toNat≤57:=h2;unfold Lib.digitVal;rw [if_pos ⟨h1',h2'⟩]
  unfold Lib.decFrom;rw [hd];simp only [List.foldl_cons];rw [ih (λc hc=>h c (by simp [hc])),Nat.mul_comm]
theorem atoi_digits (l:List UInt8) (h:∀ c∈l,isDigit c=true) (hl:l≠[]):Lib.atoi l=some ((qdg l:Nat):Int):=by
 cases l with
 | nil=>exact absurd rfl hl
 | cons c r =>
  have hc:isDigit c=true:=h c (by simp)
  have h45:(c==45)=false:=by
   by_cases he:c=45
   ·subst he;exact absurd hc (by decide)
   ·simpa using he
  have h43:(c==43)=false:=by
   by_cases he:c=43
   ·subst he;exact absurd hc (by decide)
   ·simpa using he
  simp only [Lib.atoi];rw [if_neg (by rw [h45];decide),if_neg (by rw [h43];decide)]
  unfold Lib.decNat;rw [if_neg (by simp),qle _ h]
  rfl
theorem take_span (p:UInt8→Bool) (l:List UInt8):∀ c∈l.take (span p l),p c=true:=by
 induction l with
 | nil=>intro c hc;simp at hc
 | cons d r ih =>
  intro c hc;cases hd:p d
  ·rw [q7a hd] at hc;simp at hc
  ·rw [q4d hd,List.take_succ_cons] at hc
   rcases List.mem_cons.1 hc with rfl | hc
   ·exact hd
   ·exact ih c hc
theorem decVal_lt (l:List UInt8) (h:∀ c∈l,isDigit c=true):qdg l<10 ^ l.length:=by
 have H:∀ (l:List UInt8),(∀ c∈l,isDigit c=true)→∀ a,l.foldl (λa c=>10*a+(c.toNat-48)) a<(a+1)*10 ^ l.length:=by
  intro l
  induction l with
  | nil=>intro _ a;simp
  | cons c r ih =>
   intro h a;have hc:isDigit c=true:=h c (by simp)
   have h2':c.toNat≤57:=by
    unfold isDigit at hc;rw [Bool.and_eq_true] at hc;exact of_decide_eq_true hc.2
   simp only [List.foldl_cons,List.length_cons];have:=ih (λc hc=>h c (by simp [hc])) (10*a+(c.toNat-48))
   calc _<(10*a+(c.toNat-48)+1)*10 ^ r.length:=this
    _≤((a+1)*10)*10 ^ r.length:=Nat.mul_le_mul_right _ (by omega)
    _=(a+1)*10 ^ (r.length+1):=by rw [Nat.pow_succ,Nat.mul_assoc,Nat.mul_comm 10]
 have:=H l h 0
 simpa [qdg] using this
theorem indexAny_in (l:List UInt8):(Lib.indexAny l [34,10]<0→(l.drop (span q37 l)).head? = none) ∧
  (0≤Lib.indexAny l [34,10]→span q37 l=(Lib.indexAny l [34,10]).toNat∧span q37 l<l.length∧(l[span q37 l]? = some 34∨l[span q37 l]? = some 10)):=by
 induction l with
 | nil=>exact ⟨λ_=>rfl,λh=>absurd h (by decide)⟩
 | cons c r ih =>
  have hge:=Lib.indexAny_ge [34,10] r;unfold Lib.indexAny;cases hc:q37 c
  ·have hcon:([34,10]:List UInt8).contains c=true:=by
    have h1:∀ c:UInt8,([34,10]:List UInt8).contains c=!q37 c:=λc=>by
     have h:=q47 (λc=>([34,10]:List UInt8).contains c==!q37 c) (by decide +kernel) c
     rwa [beq_iff_eq] at h
    rw [h1,hc];rfl
   rw [if_pos hcon,q7a hc];refine ⟨λh=>absurd h (by decide),λ_=>⟨rfl,by simp,?_⟩⟩
   have:c=34∨c=10:=by simpa using hcon
   rcases this with rfl | rfl
   ·exact .inl rfl
   ·exact .inr rfl
  ·have hcon:([34,10]:List UInt8).contains c=false:=by
    have h1:∀ c:UInt8,([34,10]:List UInt8).contains c=!q37 c:=λc=>by
     have h:=q47 (λc=>([34,10]:List UInt8).contains c==!q37 c) (by decide +kernel) c
     rwa [beq_iff_eq] at h
    rw [h1,hc];rfl
   rw [if_neg (by rw [hcon];decide),q4d hc]
   by_cases hr:(Lib.indexAny r [34,10]==-1)=true
   ·rw [if_pos hr]
    have hr':Lib.indexAny r [34,10]=-1:=by simpa using hr
    exact ⟨λ_=>ih.1 (by omega),λh=>absurd h (by decide)⟩
   ·rw [if_neg hr]
    have hr':Lib.indexAny r [34,10]≠-1:=by simpa using hr
    refine ⟨λh=>by omega,λ_=>?_⟩
    obtain ⟨h1,h2,h3⟩:=ih.2 (by omega)
    refine ⟨by omega,by simpa using h2,by simpa using h3⟩
def Sc.out (r:Sc) (off:Nat):Value:=.agg #[.int .i64 r.kind,.int .i64 (if r.err=0 then (off:Int) else 0),.int .i64 r.n,.string (bs r.text)]
def Sc.fin (r:Sc) (off:Nat):Int:=if r.err=0 then (off+r.width:Nat) else 0
end Lx
theorem among_word:among [3,4,5]=Lx.isWord:=by
 funext c
 rw [Lx.cls_word];have h:∀ n:Nat,([3,4,5]:List Int).contains (n:Int)=(n==3||n==4||n==5):=by
  intro n;rw [Bool.eq_iff_iff];simp;omega
 exact h _
theorem among_digit:among [4]=Lx.isDigit:=by
 funext c
 rw [Lx.q5a];have h:∀ n:Nat,([4]:List Int).contains (n:Int)=(n==4):=by
  intro n;rw [Bool.eq_iff_iff];simp;omega
 exact h _
theorem qlm (w:World) (bk:Nat) (hbk:bk=w.heap.size) (x y z:Int) (t:TypeId):∀ j,j<[x,y,z].length→(w.alloc (.cells #[.int .i64 x,.int .i64 y,.int .i64 z] t)).cell? ⟨bk,0+j,none⟩=some (.int .i64 ([x,y,z].getD j 0)):=by
 intro j hj;subst hbk
 match j,hj with
 | 0,_=>simp [World.cell?_alloc_at]
 | 1,_=>simp [World.cell?_alloc_at]
 | 2,_=>simp [World.cell?_alloc_at]
set_option maxRecDepth 100000 in
set_option maxHeartbeats 1000000 in
theorem next_letter (b:Nat) (s:ByteArray) (i:Nat) (w:World) (hs:s.size≤20000) (hi:i<s.size) (hb:b<w.heap.size) (h:Scan w b s) (hc:Lx.cls s[i]=3) :
  Calls Tryz.prog 69 #[.pointer (some ⟨b,0,none⟩),.int .i64 i] w λe w' =>
   e=.returned (.tuple #[(Lx.scan (s.data.toList.drop i)).out i,.int .i64 ((Lx.scan (s.data.toList.drop i)).fin i),.int .i64 (Lx.scan (s.data.toList.drop i)).err])∧Below w.heap.size w w':=by
 have hsc:=Lx.scan_letter s[i] (s.data.toList.drop (i+1)) hc;have hd:=q1r s i hi;rw [← hd] at hsc;have HSC:=Lib.hid hsc;clear hsc;have hle:=qhz Lx.isWord (s.data.toList.drop i);rw [List.length_drop,← q0l] at hle;have hc0:Lx.q25 (s.data.toList.drop i)=3:=by rw [hd];exact hc
 have HC:=Lib.hid hc0;clear hc hc0 hd;have h0:=h.text
 go_enter Tryz.func69,Tryz.ntmps69
 go_wp2_with fail
 refine (q5k b s i _ (by omega) (by omega) (by exact h.alloc hb _)).mono ?_
 rintro e w' ⟨rfl,m1,rfl⟩;rw [Int.toNat_natCast,HC.out]
 go_wp2_with fail
 refine (qce b s i _ 3 3 [3,4,5] _ (by omega) (by omega) (by exact ((h.alloc hb _).drewN m1).alloc (by simp;omega) _) rfl (by omega) (by omega) (by exact qlm _ _ (by simp) 3 4 5 _)).mono ?_
 rintro e w' ⟨rfl,m2,rfl⟩;rw [among_word];generalize Lx.span Lx.isWord (s.data.toList.drop i)=m at *
 by_cases hm:24<m
 ·go_wp2
  refine bodyPost_ret (v:=.tuple #[.agg #[.int .i64 0,.int .i64 0,.int .i64 0,.string { data:=#[] }],.int .i64 0,.int .i64 2]) (by simp [results,Tryz.results69,go_sem]) rfl ⟨?_,?_⟩
  ·rw [HSC.out,if_pos hm];rfl
  ·exact q2x (q0d (q0d (q06 w) _) _) _
 ·have hx:=q3v s i (i+m)
  rw [Nat.add_sub_cancel_left] at hx
  go_wp2
  refine bodyPost_ret (v:=.tuple #[.agg #[.int .i64 1,.int .i64 i,.int .i64 0,.string (bs ((s.data.toList.drop i).take m))],.int .i64 (i+m:Nat),.int .i64 0]) ?_ rfl ⟨?_,?_⟩
  ·simp [results,Tryz.results69,go_sem]
  ·rw [HSC.out,if_neg hm];rfl
  ·exact q2x (q0d (q0d (q06 w) _) _) _
theorem atoi_any (l:List UInt8) (w:World) (hl:l.length≤18) {n:Int} (h:Lib.atoi l=some n) :
  Calls Tryz.prog 101 #[.string (bs l)] w λe w'=>e=.returned (.tuple #[.int .i64 n,.nilIface])∧Below w.heap.size w w':=by
 refine (Tryz.strconv_Atoi (bs l) n (by rw [qhr];exact hl) (by rw [bs_list];exact h) w).mono ?_
 rintro e w' ⟨rfl,t,rfl⟩;exact ⟨rfl,Joins.below_bytesWorld _ w _ t (Nat.le_refl _)⟩
set_option maxRecDepth 100000 in
set_option maxHeartbeats 2000000 in
theorem next_digit (b:Nat) (s:ByteArray) (i:Nat) (w:World) (hs:s.size≤20000) (hi:i<s.size) (hb:b<w.heap.size) (h:Scan w b s) (hc:Lx.cls s[i]=4) :
  Calls Tryz.prog 69 #[.pointer (some ⟨b,0,none⟩),.int .i64 i] w λe w' =>
   e=.returned (.tuple #[(Lx.scan (s.data.toList.drop i)).out i,.int .i64 ((Lx.scan (s.data.toList.drop i)).fin i),.int .i64 (Lx.scan (s.data.toList.drop i)).err])∧Below w.heap.size w w':=by
 have hsc:=Lx.scan_digit s[i] (s.data.toList.drop (i+1)) hc;have hd:=q1r s i hi;have hp:Lx.isDigit s[i]=true:=by rw [Lx.q5a,hc];rfl
 have hpos:1≤Lx.span Lx.isDigit (s.data.toList.drop i):=by rw [hd,q4d hp];omega
 rw [← hd] at hsc;rw [List.drop_drop] at hsc;have HSC:=Lib.hid hsc;clear hsc;have hle:=qhz Lx.isDigit (s.data.toList.drop i);rw [List.length_drop,← q0l] at hle;have hc0:Lx.q25 (s.data.toList.drop i)=4:=by rw [hd];exact hc
 have HC:=Lib.hid hc0;have hdig:=Lx.take_span Lx.isDigit (s.data.toList.drop i);have HDIG:=Lib.hid hdig;clear hc hc0 hd hdig hp;have h0:=h.text
 go_enter Tryz.func69,Tryz.ntmps69
 go_wp2_with fail
 refine (q5k b s i _ (by omega) (by omega) (by exact h.alloc hb _)).mono ?_
 rintro e w' ⟨rfl,m1,rfl⟩;rw [Int.toNat_natCast,HC.out]
 go_wp2_with fail
 refine (qce b s i _ 1 1 [4] _ (by omega) (by omega) (by exact ((h.alloc hb _).alloc (by simp;omega) _).drewN m1) rfl (by omega) (by omega) (by exact qg6 _ _ (by simp) 4 _)).mono ?_
 rintro e w' ⟨rfl,m2,rfl⟩;rw [among_digit];generalize Lx.span Lx.isDigit (s.data.toList.drop i)=m at *
 go_wp2_with fail
 refine (q5k b s (i+m) _ (by omega) (by omega) (by exact ((h.alloc hb _).alloc (by simp;omega) _).drewN _)).mono ?_
 rintro e w' ⟨rfl,m3,rfl⟩;rw [show ((i:Int)+(m:Int)).toNat=i+m from by omega]
 generalize Lx.q25 (s.data.toList.drop (i+m))=c2 at *
 by_cases hm:13<m∨c2=3∨c2=5
 ·have hbad:(13<(m:Int))∨((c2:Int)==3)=true∨((c2:Int)==5)=true:=by
   rcases hm with hm | rfl | rfl
   ·left;omega
   ·right;left;rfl
   ·right;right;rfl
  have hsb:Lx.scan (s.data.toList.drop i)=Lx.bad 4:=by
   rw [HSC.out,if_pos];rcases hm with hm | rfl | rfl
   ·simp [hm]
   ·simp
   ·simp
  have HSB:=Lib.hid hsb;clear hsb hm HSC;have fin:∀ X:World,Below w.heap.size w X→(Ending.returned (.tuple #[.agg #[.int .i64 0,.int .i64 0,.int .i64 0,.string { data:=#[] }],.int .i64 0,.int .i64 4])=.returned (.tuple #[(Lx.scan (s.data.toList.drop i)).out i,.int .i64 ((Lx.scan (s.data.toList.drop i)).fin i),.int .i64 (Lx.scan (s.data.toList.drop i)).err]))∧Below w.heap.size w X:=λX hX=>⟨by rw [HSB.out];rfl,hX⟩
  have FIN:=Lib.hid fin;clear fin;by_cases h13:13<m
  ·clear hbad
   go_wp2
   refine bodyPost_ret (v:=.tuple #[.agg #[.int .i64 0,.int .i64 0,.int .i64 0,.string { data:=#[] }],.int .i64 0,.int .i64 4]) (by simp [results,Tryz.results69,go_sem]) rfl (FIN.out _ ?_)
   exact q2x (q0d (q0d (q06 w) _) _) _
  ·cases h3:((c2:Int)==3)
   ·have h5:((c2:Int)==5)=true:=by
     rcases hbad with hb' | hb' | hb'
     ·omega
     ·rw [h3] at hb';cases hb'
     ·exact hb'
    clear hbad
    go_wp2
    refine bodyPost_ret (v:=.tuple #[.agg #[.int .i64 0,.int .i64 0,.int .i64 0,.string { data:=#[] }],.int .i64 0,.int .i64 4]) (by simp [results,Tryz.results69,go_sem]) rfl (FIN.out _ ?_)
    exact q2x (q0d (q0d (q06 w) _) _) _
   ·clear hbad
    go_wp2
    refine bodyPost_ret (v:=.tuple #[.agg #[.int .i64 0,.int .i64 0,.int .i64 0,.string { data:=#[] }],.int .i64 0,.int .i64 4]) (by simp [results,Tryz.results69,go_sem]) rfl (FIN.out _ ?_)
    exact q2x (q0d (q0d (q06 w) _) _) _
 ·have h13:m≤13:=by omega
  have h3:((c2:Int)==3)=false:=by rw [beq_eq_false_iff_ne];omega
  have h5:((c2:Int)==5)=false:=by rw [beq_eq_false_iff_ne];omega
  have hn13:(13<m)=False:=by simp;omega
  have hsc:=HSC.out;have h3':(c2==3)=false:=by rw [beq_eq_false_iff_ne];omega
  have h5':(c2==5)=false:=by rw [beq_eq_false_iff_ne];omega
  rw [if_neg (by rw [h3',h5'];simp;omega)] at hsc
  clear HSC hm h3' h5' hn13;have HSC:=Lib.hid hsc;clear hsc;have hx:=q3v s i (i+m);rw [Nat.add_sub_cancel_left] at hx;have hlen:((s.data.toList.drop i).take m).length=m:=by
   rw [List.length_take,List.length_drop,← q0l];omega
  have hat:=Lx.atoi_digits ((s.data.toList.drop i).take m) HDIG.out (by intro h;rw [h] at hlen;simp at hlen;omega)
  have hlt:=Lx.decVal_lt _ HDIG.out;rw [hlen] at hlt;have HAT:=Lib.hid hat;clear hat
  go_wp2_with fail
  refine (atoi_any ((s.data.toList.drop i).take m) _ (by rw [hlen];omega) HAT.out).mono ?_
  rintro e w3 ⟨rfl,hb3⟩;have hS3:Scan w3 b s:=(((h.alloc hb _).alloc (by simp;omega) _).drewN _).below hb3 (by simp;omega)
  have hbelow:Below w.heap.size w w3:=q9w (q2x (q0d (q0d (q06 w) _) _) _) hb3;have hblk:Blk w3 w.heap.size 62 #[.int .i64 0,.int .i64 0,.int .i64 0,.string { data:=#[] }] :=
   (((Blk.new w _ _).alloc _).drewN _).bel hb3
  have t0:=hS3.text;have k0:=hblk.cell 0;have k1:=hblk.cell 1;have k2:=hblk.cell 2;have k3:=hblk.cell 3;have f0:=hblk.frozen 0;have f1:=hblk.frozen 1;have f2:=hblk.frozen 2;have f3:=hblk.frozen 3;have HB:=Lib.hid hbelow;have HBLK:=Lib.hid hblk;clear hb3 hbelow hblk hS3;generalize Lx.qdg ((s.data.toList.drop i).take m)=v at *
  go_wp2
  refine bodyPost_ret (q1d rfl _ _ w.heap.size 62 _ _ rfl ((((HBLK.out.set_ 0 _).set_ 1 _).set_ 2 _).set_ 3 _) Tryz.underlying62 rfl (by kernel_rfl)) rfl ⟨?_,?_⟩
  ·rw [HSC.out];rfl
  ·exact q28 (q28 (q28 (q28 HB.out (Nat.le_refl _) _) (Nat.le_refl _) _) (Nat.le_refl _) _) (Nat.le_refl _) _
end Go.Proofs.YtednmlmllbkhhaaGreatDoor
namespace Go.Proofs.YtednmlmllbkhhaaGreatDoor
open Go.RowKit
attribute [local go_sem] q4w q3q q45
theorem tok_block (w:World) (m:Nat) (w3:World) (hb3:Below (((w.alloc (.cells #[.int .i64 0,.int .i64 0,.int .i64 0,.string { data:=#[] }] 62)).drewN m).heap.size) ((w.alloc (.cells #[.int .i64 0,.int .i64 0,.int .i64 0,.string { data:=#[] }] 62)).drewN m) w3) :
  Below w.heap.size w w3∧Blk w3 w.heap.size 62 #[.int .i64 0,.int .i64 0,.int .i64 0,.string { data:=#[] }] :=
 ⟨q9w (q2x (q0d (q06 w) _) _) hb3,((Blk.new w _ _).drewN _).bel hb3⟩
set_option maxRecDepth 100000 in
set_option maxHeartbeats 2000000 in
theorem next_quote (b:Nat) (s:ByteArray) (i:Nat) (w:World) (hs:s.size≤20000) (hi:i<s.size) (hb:b<w.heap.size) (h:Scan w b s) (hc:Lx.cls s[i]=6) :
  Calls Tryz.prog 69 #[.pointer (some ⟨b,0,none⟩),.int .i64 i] w λe w' =>
   e=.returned (.tuple #[(Lx.scan (s.data.toList.drop i)).out i,.int .i64 ((Lx.scan (s.data.toList.drop i)).fin i),.int .i64 (Lx.scan (s.data.toList.drop i)).err])∧Below w.heap.size w w':=by
 have hsc:=Lx.scan_quote s[i] (s.data.toList.drop (i+1)) hc;have hd:=q1r s i hi;rw [← hd] at hsc;have hc0:Lx.q25 (s.data.toList.drop i)=6:=by rw [hd];exact hc
 have HC:=Lib.hid hc0;clear hc hc0 hd;have h0:=h.text;obtain ⟨R,hR⟩:∃ R,s.extract (i+1) s.size=R:=⟨_,rfl⟩;have hRl:R.data.toList=s.data.toList.drop (i+1):=by
  rw [← hR,Lib.extract_data];exact List.take_of_length_le (by rw [List.length_drop,← q0l];exact Nat.le_refl _)
 have hRs:R.size=s.size-(i+1):=by rw [q0l,hRl,List.length_drop,← q0l]
 have hRs':R.size≤20000:=by omega
 rw [← hRl] at hsc;have HSC:=Lib.hid hsc;clear hsc;have HRS:=Lib.hid hRs;clear hRs;obtain ⟨hin1,hin2⟩:=Lx.indexAny_in R.data.toList;have HIN1:=Lib.hid hin1;have HIN2:=Lib.hid hin2;clear hin1 hin2 hRl;have hge:=Lib.indexAny_ge [34,10] R.data.toList
 go_enter Tryz.func69,Tryz.ntmps69
 go_wp2_with fail
 refine (q5k b s i _ (by omega) (by omega) (by exact h.alloc hb _)).mono ?_
 rintro e w' ⟨rfl,m1,rfl⟩;rw [Int.toNat_natCast,HC.out]
 go_wp2_with fail
 refine (ql7 R _ (by omega)).mono ?_
 rintro e w3 ⟨rfl,hb3⟩;have hS3:Scan w3 b s:=((h.alloc hb _).drewN _).below hb3 (by simp;omega)
 obtain ⟨hbelow,hblk⟩:=tok_block w m1 w3 hb3;have t0:=hS3.text;have k0:=hblk.cell 0;have k1:=hblk.cell 1;have k2:=hblk.cell 2;have k3:=hblk.cell 3;have f0:=hblk.frozen 0;have f1:=hblk.frozen 1;have f2:=hblk.frozen 2;have f3:=hblk.frozen 3;have HB:=Lib.hid hbelow;have HBLK:=Lib.hid hblk;clear hb3 hbelow hblk hS3;by_cases hneg:Lib.indexAny R.data.toList [34,10]<0
 ·have hh:=HIN1.out hneg
  have hsb:Lx.scan (s.data.toList.drop i)=Lx.bad 6:=by rw [HSC.out,hh];rfl
  have HSB:=Lib.hid hsb;clear hsb hh HSC HIN1 HIN2;generalize Lib.indexAny R.data.toList [34,10]=o at *
  go_wp2
  refine bodyPost_ret (q1d rfl _ _ w.heap.size 62 _ _ rfl ((((HBLK.out.set_ 0 _).set_ 1 _).set_ 2 _).set_ 3 _) Tryz.underlying62 rfl (by kernel_rfl)) rfl ⟨?_,?_⟩
  ·rw [HSB.out];rfl
  ·exact q28 (q28 (q28 (q28 HB.out (Nat.le_refl _) _) (Nat.le_refl _) _) (Nat.le_refl _) _) (Nat.le_refl _) _
 ·obtain ⟨p1,p2,p3⟩:=HIN2.out (by omega)
  rw [← q0l] at p2;have HSC':=HSC.out;generalize Lib.indexAny R.data.toList [34,10]=o at *
  obtain ⟨q,rfl⟩:=Int.eq_ofNat_of_zero_le (show 0≤o by omega)
  have p1':Lx.span Lx.q37 R.data.toList=q:=by simpa using p1
  rw [p1'] at p2 p3 HSC';have hget:=qbb R q p2;rw [hget] at p3;have hhd:(R.data.toList.drop q).head? = some R[q]:=by rw [List.head?_drop,hget]
  rw [hhd] at HSC';have HX:=q3v R 0 q;rw [Nat.sub_zero,List.drop_zero] at HX;clear p1 p1' HIN1 HIN2 hget hhd HSC;by_cases h10:R[q]=10
  ·have hsb:Lx.scan (s.data.toList.drop i)=Lx.bad 6:=by rw [HSC',h10];rfl
   have HSB:=Lib.hid hsb;have h10':((R[q].toNat:Int)==10)=true:=by rw [h10];rfl
   clear hsb HSC' h10 p3
   go_wp2
   refine bodyPost_ret (q1d rfl _ _ w.heap.size 62 _ _ rfl ((((HBLK.out.set_ 0 _).set_ 1 _).set_ 2 _).set_ 3 _) Tryz.underlying62 rfl (by kernel_rfl)) rfl ⟨?_,?_⟩
   ·rw [HSB.out];rfl
   ·exact q28 (q28 (q28 (q28 HB.out (Nat.le_refl _) _) (Nat.le_refl _) _) (Nat.le_refl _) _) (Nat.le_refl _) _
  ·have h34:R[q]=34:=by
    rcases p3 with h | h
    ·injection h
    ·injection h with h;exact absurd h h10
   have h10':((R[q].toNat:Int)==10)=false:=by rw [h34];rfl
   rw [h34] at HSC';rw [if_pos (beq_self_eq_true _)] at HSC';have HSC:=Lib.hid HSC';have HX':=Lib.hid HX;clear HSC' h10 p3 h34;by_cases h4:400<q
   ·have hsb:Lx.scan (s.data.toList.drop i)=Lx.bad 2:=by rw [HSC.out,if_pos h4]
    have HSB:=Lib.hid hsb;clear hsb HSC
    go_wp2
    refine bodyPost_ret (q1d rfl _ _ w.heap.size 62 _ _ rfl ((((HBLK.out.set_ 0 _).set_ 1 _).set_ 2 _).set_ 3 _) Tryz.underlying62 rfl (by kernel_rfl)) rfl ⟨?_,?_⟩
    ·rw [HSB.out];rfl
    ·exact q28 (q28 (q28 (q28 HB.out (Nat.le_refl _) _) (Nat.le_refl _) _) (Nat.le_refl _) _) (Nat.le_refl _) _
   ·have hsb:Lx.scan (s.data.toList.drop i)=⟨0,3,0,R.data.toList.take q,q+2⟩:=by rw [HSC.out,if_neg h4]
    have HSB:=Lib.hid hsb;clear hsb HSC
    go_wp2
    refine bodyPost_ret (q1d rfl _ _ w.heap.size 62 _ _ rfl ((((HBLK.out.set_ 0 _).set_ 1 _).set_ 2 _).set_ 3 _) Tryz.underlying62 rfl (by kernel_rfl)) rfl ⟨?_,?_⟩
    ·rw [HSB.out]
     simp only [Lx.Sc.out,Lx.Sc.fin,if_true];rw [← Nat.add_assoc];rfl
    ·exact q28 (q28 (q28 (q28 HB.out (Nat.le_refl _) _) (Nat.le_refl _) _) (Nat.le_refl _) _) (Nat.le_refl _) _
set_option maxRecDepth 100000 in
set_option maxHeartbeats 2000000 in
theorem next_mark (b:Nat) (s:ByteArray) (i:Nat) (w:World) (hs:s.size≤20000) (hi:i<s.size) (hb:b<w.heap.size) (h:Scan w b s) (hc:Lx.cls s[i]=7) :
  Calls Tryz.prog 69 #[.pointer (some ⟨b,0,none⟩),.int .i64 i] w λe w' =>
   e=.returned (.tuple #[(Lx.scan (s.data.toList.drop i)).out i,.int .i64 ((Lx.scan (s.data.toList.drop i)).fin i),.int .i64 (Lx.scan (s.data.toList.drop i)).err])∧Below w.heap.size w w':=by
 have hsc:=Lx.scan_mark s[i] (s.data.toList.drop (i+1)) hc;have hd:=q1r s i hi;rw [← hd] at hsc;have hc0:Lx.q25 (s.data.toList.drop i)=7:=by rw [hd];exact hc
 have HC:=Lib.hid hc0;have h0:=h.text;obtain ⟨R,hR⟩:∃ R,s.extract (i+1) s.size=R:=⟨_,rfl⟩;have hRl:R.data.toList=s.data.toList.drop (i+1):=by
  rw [← hR,Lib.extract_data];exact List.take_of_length_le (by rw [List.length_drop,← q0l];exact Nat.le_refl _)
 have hpre:Lib.hasPrefix R.data.toList [61]=((s.data.toList.drop (i+1)).head? == some 61):=by
  rw [hRl];cases s.data.toList.drop (i+1) with
  | nil=>rfl
  | cons c r =>
   simp only [Lib.hasPrefix,List.isPrefixOf,List.head?_cons,Bool.and_true];rw [Bool.eq_iff_iff];simp;exact eq_comm
 have HPRE:=Lib.hid hpre;clear hpre;rcases Bool.eq_false_or_eq_true ((s.data.toList.drop (i+1)).head? == some 61) with hq | hq
 ·have hlt:i+1<s.size:=by
   rcases Nat.lt_or_ge (i+1) s.size with h1 | h1
   ·exact h1
   ·rw [List.drop_eq_nil_of_le (by rw [← q0l];exact h1)] at hq;cases hq
  have hxt:s.extract i (i+2)=bs [s[i],61]:=by
   rw [q3v,show i+2-i=2 from by omega,hd]
   have h2:=q1r s (i+1) hlt;rw [h2] at hq ⊢;have h3:s[i+1]=61:=by simpa using hq
   rw [h3];rfl
  rw [if_pos hq] at hsc;have HSC:=Lib.hid hsc;have HXT:=Lib.hid hxt;clear hsc hd hc hRl hc0
  go_enter Tryz.func69,Tryz.ntmps69
  go_wp2_with fail
  refine (q5k b s i _ (by omega) (by omega) (by exact h.alloc hb _)).mono ?_
  rintro e w' ⟨rfl,m1,rfl⟩;rw [Int.toNat_natCast,HC.out]
  go_wp2_with fail
  refine (Tryz.strings_HasPrefix R _ _).mono ?_;rintro e w' ⟨rfl,rfl⟩;rw [show (({ data:=#[61] }:ByteArray).data.toList)=[61] from rfl,HPRE.out];rw [hq];clear hq
  go_wp2
  refine bodyPost_ret (q1d rfl _ _ w.heap.size 62 _ _ rfl (by exact (Blk.new w _ _).drewN _) Tryz.underlying62 rfl (by kernel_rfl)) rfl ⟨?_,?_⟩
  ·rw [HSC.out,HXT.out];rfl
  ·exact q2x (q0d (q06 w) _) _
 ·rw [if_neg (by rw [hq];decide)] at hsc
  have HSC:=Lib.hid hsc;clear hsc hd hc hRl hc0
  go_enter Tryz.func69,Tryz.ntmps69
  go_wp2_with fail
  refine (q5k b s i _ (by omega) (by omega) (by exact h.alloc hb _)).mono ?_
  rintro e w' ⟨rfl,m1,rfl⟩;rw [Int.toNat_natCast,HC.out]
  go_wp2_with fail
  refine (Tryz.strings_HasPrefix R _ _).mono ?_;rintro e w' ⟨rfl,rfl⟩;rw [show (({ data:=#[61] }:ByteArray).data.toList)=[61] from rfl,HPRE.out];rw [hq];clear hq
  go_wp2
  refine bodyPost_ret (q1d rfl _ _ w.heap.size 62 _ _ rfl (by exact (Blk.new w _ _).drewN _) Tryz.underlying62 rfl (by kernel_rfl)) rfl ⟨?_,?_⟩
  ·rw [HSC.out];rfl
  ·exact q2x (q0d (q06 w) _) _
set_option maxRecDepth 100000 in
set_option maxHeartbeats 2000000 in
theorem next_angle (b:Nat) (s:ByteArray) (i:Nat) (w:World) (hs:s.size≤20000) (hi:i<s.size) (hb:b<w.heap.size) (h:Scan w b s) (hc:Lx.cls s[i]=8) :
  Calls Tryz.prog 69 #[.pointer (some ⟨b,0,none⟩),.int .i64 i] w λe w' =>
   e=.returned (.tuple #[(Lx.scan (s.data.toList.drop i)).out i,.int .i64 ((Lx.scan (s.data.toList.drop i)).fin i),.int .i64 (Lx.scan (s.data.toList.drop i)).err])∧Below w.heap.size w w':=by
 have hsc:=Lx.scan_angle s[i] (s.data.toList.drop (i+1)) hc;have hd:=q1r s i hi;rw [← hd] at hsc;have hc0:Lx.q25 (s.data.toList.drop i)=8:=by rw [hd];exact hc
 have HC:=Lib.hid hc0;have h0:=h.text;obtain ⟨R,hR⟩:∃ R,s.extract (i+1) s.size=R:=⟨_,rfl⟩;have hRl:R.data.toList=s.data.toList.drop (i+1):=by
  rw [← hR,Lib.extract_data];exact List.take_of_length_le (by rw [List.length_drop,← q0l];exact Nat.le_refl _)
 have hpre:Lib.hasPrefix R.data.toList [61]=((s.data.toList.drop (i+1)).head? == some 61):=by
  rw [hRl];cases s.data.toList.drop (i+1) with
  | nil=>rfl
  | cons c r =>
   simp only [Lib.hasPrefix,List.isPrefixOf,List.head?_cons,Bool.and_true];rw [Bool.eq_iff_iff];simp;exact eq_comm
 have HPRE:=Lib.hid hpre;clear hpre;rcases Bool.eq_false_or_eq_true ((s.data.toList.drop (i+1)).head? == some 61) with hq | hq
 ·have hlt:i+1<s.size:=by
   rcases Nat.lt_or_ge (i+1) s.size with h1 | h1
   ·exact h1
   ·rw [List.drop_eq_nil_of_le (by rw [← q0l];exact h1)] at hq;cases hq
  have hxt:s.extract i (i+2)=bs [s[i],61]:=by
   rw [q3v,show i+2-i=2 from by omega,hd]
   have h2:=q1r s (i+1) hlt;rw [h2] at hq ⊢;have h3:s[i+1]=61:=by simpa using hq
   rw [h3];rfl
  rw [if_pos hq] at hsc;have HSC:=Lib.hid hsc;have HXT:=Lib.hid hxt;clear hsc hd hc hRl hc0
  go_enter Tryz.func69,Tryz.ntmps69
  go_wp2_with fail
  refine (q5k b s i _ (by omega) (by omega) (by exact h.alloc hb _)).mono ?_
  rintro e w' ⟨rfl,m1,rfl⟩;rw [Int.toNat_natCast,HC.out]
  go_wp2_with fail
  refine (Tryz.strings_HasPrefix R _ _).mono ?_;rintro e w' ⟨rfl,rfl⟩;rw [show (({ data:=#[61] }:ByteArray).data.toList)=[61] from rfl,HPRE.out];rw [hq];clear hq
  go_wp2
  refine bodyPost_ret (q1d rfl _ _ w.heap.size 62 _ _ rfl (by exact (Blk.new w _ _).drewN _) Tryz.underlying62 rfl (by kernel_rfl)) rfl ⟨?_,?_⟩
  ·rw [HSC.out,HXT.out];rfl
  ·exact q2x (q0d (q06 w) _) _
 ·rw [if_neg (by rw [hq];decide)] at hsc
  have hxt:s.extract i (i+1)=bs [s[i]]:=by
   rw [q3v,show i+1-i=1 from by omega,hd]
   rfl
  have HSC:=Lib.hid hsc;have HXT:=Lib.hid hxt;clear hsc hd hc hRl hc0 hxt
  go_enter Tryz.func69,Tryz.ntmps69
  go_wp2_with fail
  refine (q5k b s i _ (by omega) (by omega) (by exact h.alloc hb _)).mono ?_
  rintro e w' ⟨rfl,m1,rfl⟩;rw [Int.toNat_natCast,HC.out]
  go_wp2_with fail
  refine (Tryz.strings_HasPrefix R _ _).mono ?_;rintro e w' ⟨rfl,rfl⟩;rw [show (({ data:=#[61] }:ByteArray).data.toList)=[61] from rfl,HPRE.out];rw [hq];clear hq
  go_wp2
  refine bodyPost_ret (q1d rfl _ _ w.heap.size 62 _ _ rfl (by exact (Blk.new w _ _).drewN _) Tryz.underlying62 rfl (by kernel_rfl)) rfl ⟨?_,?_⟩
  ·rw [HSC.out,HXT.out];rfl
  ·exact q2x (q0d (q06 w) _) _
set_option maxRecDepth 100000 in
set_option maxHeartbeats 2000000 in
theorem next_sym (b:Nat) (s:ByteArray) (i:Nat) (w:World) (hs:s.size≤20000) (hi:i<s.size) (hb:b<w.heap.size) (h:Scan w b s) (hc:Lx.cls s[i]=9) :
  Calls Tryz.prog 69 #[.pointer (some ⟨b,0,none⟩),.int .i64 i] w λe w' =>
   e=.returned (.tuple #[(Lx.scan (s.data.toList.drop i)).out i,.int .i64 ((Lx.scan (s.data.toList.drop i)).fin i),.int .i64 (Lx.scan (s.data.toList.drop i)).err])∧Below w.heap.size w w':=by
 have hsc:=Lx.scan_sym s[i] (s.data.toList.drop (i+1)) hc;have hd:=q1r s i hi;rw [← hd] at hsc;have hc0:Lx.q25 (s.data.toList.drop i)=9:=by rw [hd];exact hc
 have HC:=Lib.hid hc0;have h0:=h.text;have hxt:s.extract i (i+1)=bs [s[i]]:=by
  rw [q3v,show i+1-i=1 from by omega,hd]
  rfl
 have HSC:=Lib.hid hsc;have HXT:=Lib.hid hxt;clear hsc hd hc hc0 hxt
 go_enter Tryz.func69,Tryz.ntmps69
 go_wp2_with fail
 refine (q5k b s i _ (by omega) (by omega) (by exact h.alloc hb _)).mono ?_
 rintro e w' ⟨rfl,m1,rfl⟩;rw [Int.toNat_natCast,HC.out]
 go_wp2
 refine bodyPost_ret (q1d rfl _ _ w.heap.size 62 _ _ rfl (by exact (Blk.new w _ _).drewN _) Tryz.underlying62 rfl (by kernel_rfl)) rfl ⟨?_,?_⟩
 ·rw [HSC.out,HXT.out];rfl
 ·exact q2x (q0d (q06 w) _) _
set_option maxRecDepth 100000 in
set_option maxHeartbeats 2000000 in
theorem next_other (b:Nat) (s:ByteArray) (i:Nat) (w:World) (hs:s.size≤20000) (hi:i<s.size) (hb:b<w.heap.size) (h:Scan w b s) (h3:Lx.cls s[i]≠3) (h4:Lx.cls s[i]≠4) (h6:Lx.cls s[i]≠6) (h7:Lx.cls s[i]≠7) (h8:Lx.cls s[i]≠8) (h9:Lx.cls s[i]≠9) :
  Calls Tryz.prog 69 #[.pointer (some ⟨b,0,none⟩),.int .i64 i] w λe w' =>
   e=.returned (.tuple #[(Lx.scan (s.data.toList.drop i)).out i,.int .i64 ((Lx.scan (s.data.toList.drop i)).fin i),.int .i64 (Lx.scan (s.data.toList.drop i)).err])∧Below w.heap.size w w':=by
 have hsc:=Lx.scan_other s[i] (s.data.toList.drop (i+1)) h3 h4 h6 h7 h8 h9;have hd:=q1r s i hi;rw [← hd] at hsc;have hc0:Lx.q25 (s.data.toList.drop i)=Lx.cls s[i]:=by rw [hd];rfl
 have HC:=Lib.hid hc0;have e3:((Lx.cls s[i]:Int)==3)=false:=by rw [beq_eq_false_iff_ne];omega
 have e4:((Lx.cls s[i]:Int)==4)=false:=by rw [beq_eq_false_iff_ne];omega
 have e6:((Lx.cls s[i]:Int)==6)=false:=by rw [beq_eq_false_iff_ne];omega
 have e7:((Lx.cls s[i]:Int)==7)=false:=by rw [beq_eq_false_iff_ne];omega
 have e8:((Lx.cls s[i]:Int)==8)=false:=by rw [beq_eq_false_iff_ne];omega
 have e9:((Lx.cls s[i]:Int)==9)=false:=by rw [beq_eq_false_iff_ne];omega
 have HSC:=Lib.hid hsc;clear hsc hd hc0
 go_enter Tryz.func69,Tryz.ntmps69
 go_wp2_with fail
 refine (q5k b s i _ (by omega) (by omega) (by exact h.alloc hb _)).mono ?_
 rintro e w' ⟨rfl,m1,rfl⟩;rw [Int.toNat_natCast,HC.out];generalize Lx.cls s[i]=cc at *
 go_wp2
 refine bodyPost_ret (q1d rfl _ _ w.heap.size 62 _ _ rfl (by exact (Blk.new w _ _).drewN _) Tryz.underlying62 rfl (by kernel_rfl)) rfl ⟨?_,?_⟩
 ·rw [HSC.out];rfl
 ·exact q2x (q0d (q06 w) _) _
theorem next_any (b:Nat) (s:ByteArray) (i:Int) (w:World) (hs:s.size≤20000) (hi0:0≤i) (hi:i<s.size) (hb:b<w.heap.size) (h:Scan w b s) :
  Calls Tryz.prog 69 #[.pointer (some ⟨b,0,none⟩),.int .i64 i] w λe w' =>
   e=.returned (.tuple #[(Lx.scan (s.data.toList.drop i.toNat)).out i.toNat,.int .i64 ((Lx.scan (s.data.toList.drop i.toNat)).fin i.toNat),.int .i64 (Lx.scan (s.data.toList.drop i.toNat)).err])∧Below w.heap.size w w':=by
 obtain ⟨i,rfl⟩:=Int.eq_ofNat_of_zero_le hi0;rw [Int.toNat_natCast];have hi':i<s.size:=by omega
 by_cases h3:Lx.cls s[i]=3
 ·exact next_letter b s i w hs hi' hb h h3
 by_cases h4:Lx.cls s[i]=4
 ·exact next_digit b s i w hs hi' hb h h4
 by_cases h6:Lx.cls s[i]=6
 ·exact next_quote b s i w hs hi' hb h h6
 by_cases h7:Lx.cls s[i]=7
 ·exact next_mark b s i w hs hi' hb h h7
 by_cases h8:Lx.cls s[i]=8
 ·exact next_angle b s i w hs hi' hb h h8
 by_cases h9:Lx.cls s[i]=9
 ·exact next_sym b s i w hs hi' hb h h9
 exact next_other b s i w hs hi' hb h h3 h4 h6 h7 h8 h9
end Go.Proofs.YtednmlmllbkhhaaGreatDoor
namespace Go.Proofs.YtednmlmllbkhhaaGreatDoor
open Go.RowKit
def q1h (C:Array Value) (l:List UInt8) (k:Int):Array Value:=l.foldl (λC c=>C.setIfInBounds c.toNat (.int .i64 k)) C
theorem q2y (C:Array Value) (l:List UInt8) (k:Int):(q1h C l k).size=C.size:=by
 unfold q1h
 induction l generalizing C with
 | nil=>rfl
 | cons c r ih=>rw [List.foldl_cons,ih];simp
theorem setAll_snoc (C:Array Value) (l:List UInt8) (c:UInt8) (k:Int):q1h C (l++[c]) k=(q1h C l k).setIfInBounds c.toNat (.int .i64 k):=by
 simp [q1h]
theorem qla (w:World) (g i:Nat) (C:Array Value) (t:TypeId) (v:Value) (C':Array Value) (hg:w.heap[g]? = some (.cells C t (0,0))):(w.setRow g C').setCell ⟨g,i,none⟩ v=w.setRow g (C'.setIfInBounds i v):=by
 simp only [World.setRow,World.setCell]
 congr 1
 apply Array.ext_getElem?
 intro j;simp only [Array.getElem?_modify];by_cases h:g=j
 ·subst h;simp [hg]
 ·simp [h]
theorem setRow_heap (w:World) (g:Nat) (C:Array Value) (t:TypeId) (C':Array Value) (hg:w.heap[g]? = some (.cells C t (0,0))):(w.setRow g C').heap[g]? = some (.cells C' t (0,0)):=by
 simp [World.setRow,Array.getElem?_modify,hg]
theorem setRow_self (w:World) (g:Nat) (C:Array Value) (t:TypeId) (hg:w.heap[g]? = some (.cells C t (0,0))):w.setRow g C=w:=by
 simp only [World.setRow];have:(w.heap.modify g fun | .cells _ elem frozen=>.cells C elem frozen | o=>o)=w.heap:=by
  apply Array.ext_getElem?
  intro j;rw [Array.getElem?_modify];by_cases h:g=j
  ·subst h;simp [hg]
  ·simp [h]
 exact congrArg (λh=>({ w with heap:=h }:World)) this
set_option maxRecDepth 100000 in
set_option maxHeartbeats 1000000 in
theorem set_any (s:ByteArray) (k:Int) (g:Nat) (C:Array Value) (w:World) (hs:s.size≤1000) (hC:C.size=256) (hg:w.heap[g]? = some (.cells C 79 (0,0))) :
  Calls Tryz.prog 97 #[.string s,.int .i64 k,.pointer (some ⟨g,0,none⟩)] w λe w'=>e=.returned (.tuple #[])∧w'=w.setRow g (q1h C s.data.toList k):=by
 have HG:=Lib.hid hg;have hw:w=w.setRow g (q1h C (s.data.toList.take 0) k):=(setRow_self w g C _ hg).symm;have HW:=Lib.hid hw;clear hw hg;have HC:=Lib.hid hC;clear hC
 go_enter Tryz.func97,Tryz.ntmps97
 go_wp2
 go_loopw [5] (λv wr=>∃ i:Nat,i≤s.size∧v=.int .i64 i∧wr=w.setRow g (q1h C (s.data.toList.take i) k)) (λv _=>s.size-(intOf v).toNat)
 case atStart=>exact ⟨0,by omega,rfl,HW.out⟩
 case round =>
  obtain ⟨i,hi,rfl,hwr⟩:=hrel;have HWR:=Lib.hid hwr;clear hwr;by_cases hlt:i<s.size
  ·have hx:=qbb s i hlt
   have HX:=Lib.hid hx;clear hx;have hb:s[i].toNat<256:=UInt8.toNat_lt s[i];have hh:wr.heap[g]? = some (.cells (q1h C (s.data.toList.take i) k) 79 (0,0)):=by rw [HWR.out];exact setRow_heap w g C _ _ HG.out
   have hcell:wr.cell? ⟨g,s[i].toNat,none⟩=some ((q1h C (s.data.toList.take i) k)[s[i].toNat]'(by rw [q2y,HC.out];exact hb)):=by
    rw [cell_of_row wr g _ _ _ _ hh];simp
   have hfr:wr.frozen? ⟨g,s[i].toNat,none⟩=false:=frozen_of_row wr g _ _ _ hh;clear hh;generalize (q1h C (s.data.toList.take i) k)[s[i].toNat]'(by rw [q2y,HC.out];exact hb)=old at *
   go_wp2
   go_roundw
   case rel =>
    refine ⟨i+1,by omega,by go_num,?_⟩
    rw [List.take_add_one,HX.out,HWR.out];simp only [Option.toList];rw [setAll_snoc,← qla w g _ C _ _ _ HG.out]
   case measure=>simp [intOf];omega
  ·go_wp2
   go_end0
   refine ⟨rfl,?_⟩;have hi2:i=s.size:=by omega
   rw [HWR.out,List.take_of_length_le (by rw [← q0l];omega)]
theorem setRow_two (w:World) (o:Obj) (c c':Array Value) (t:TypeId):((w.alloc o).alloc (.cells c t)).setRow (w.heap.size+1) c'=(w.alloc o).alloc (.cells c' t):=by
 have:=World.setRow_alloc_new (w.alloc o) c c' t
 simpa using this
theorem heap_two (w:World) (o o':Obj):((w.alloc o).alloc o').heap[w.heap.size+1]? = some o':=by
 have:=heap_alloc_last (w.alloc o) o'
 simpa using this
theorem q67 (s:ByteArray) (k:Int) (w:World) (o:Obj) (C:Array Value) (hs:s.size≤1000) (hC:C.size=256) :
  Calls Tryz.prog 97 #[.string s,.int .i64 k,.pointer (some ⟨w.heap.size+1,0,none⟩)] ((w.alloc o).alloc (.cells C 79)) λe w' =>
   e=.returned (.tuple #[])∧w'=(w.alloc o).alloc (.cells (q1h C s.data.toList k) 79):=by
 refine (set_any s k (w.heap.size+1) C _ hs hC (heap_two w o _)).mono ?_;rintro e w' ⟨rfl,rfl⟩;exact ⟨rfl,setRow_two w o _ _ _⟩
def tab0:Array Value:=Array.replicate 256 (.int .i64 0)
def tab1:Array Value:=q1h tab0 [97,98,99,100,101,102,103,104,105,106,107,108,109,110,111,112,113,114,115,116,117,118,119,120,121,122,65,66,67,68,69,70,71,72,73,74,75,76,77,78,79,80,81,82,83,84,85,86,87,88,89,90] 3
def tab2:Array Value:=q1h tab1 [48,49,50,51,52,53,54,55,56,57] 4
def tab3:Array Value:=q1h tab2 [95] 5
def tab4:Array Value:=q1h tab3 [32,9,10] 1
def tab5:Array Value:=q1h tab4 [35] 2
def tab6:Array Value:=q1h tab5 [34] 6
def tab7:Array Value:=q1h tab6 [33] 7
def tab8:Array Value:=q1h tab7 [60,62] 8
def tab9:Array Value:=q1h tab8 [59,44,46,58,40,41,91,93,123,125,61,43,45] 9
theorem qcj:tab0.size=256:=by simp [tab0]
theorem tab1_size:tab1.size=256:=by unfold tab1;rw [q2y,qcj]
theorem tab2_size:tab2.size=256:=by unfold tab2;rw [q2y,tab1_size]
theorem tab3_size:tab3.size=256:=by unfold tab3;rw [q2y,tab2_size]
theorem tab4_size:tab4.size=256:=by unfold tab4;rw [q2y,tab3_size]
theorem tab5_size:tab5.size=256:=by unfold tab5;rw [q2y,tab4_size]
theorem tab6_size:tab6.size=256:=by unfold tab6;rw [q2y,tab5_size]
theorem tab7_size:tab7.size=256:=by unfold tab7;rw [q2y,tab6_size]
theorem tab8_size:tab8.size=256:=by unfold tab8;rw [q2y,tab7_size]
def q3t:Array Value:=((List.range 256).map λc=>Value.int .i64 (Lx.cls (UInt8.ofNat c):Nat)).toArray
theorem tab_all:tab9=q3t:=by kernel_rfl
theorem q6j:q3t.size=256:=by kernel_rfl
theorem clsTab_at (c:UInt8):q3t[c.toNat]? = some (.int .i64 (Lx.cls c:Nat)):=by
 have hc:c.toNat<256:=UInt8.toNat_lt c;have h:q3t.toList[c.toNat]? = some (.int .i64 (Lx.cls c:Nat)):=by
  show ((List.range 256).map λc=>Value.int .i64 (Lx.cls (UInt8.ofNat c):Nat))[c.toNat]? = _
  rw [List.getElem?_map,List.getElem?_range hc];simp
 simpa using h
theorem qk7:q3t.all (·.oneCell')=true:=by kernel_rfl
theorem zero_tab:∀ w,(zeroValue 79).run Tryz.prog w=.ok (.agg tab0) w:=λ_=>by kernel_rfl
theorem qjs:(Tryz.prog.info? 79).map (·.size)=some 256:=by kernel_rfl
set_option maxRecDepth 100000 in
set_option maxHeartbeats 1000000 in
theorem classes_any (w:World) :
  Calls Tryz.prog 67 #[] w λe w'=>e=.returned (.agg q3t)∧Below w.heap.size w w':=by
 have hmf:∀ (fn:Fn) (first cap:Array Value) (w:World),(Instr.makeFunc fn first cap).run Tryz.prog w=.ok (.func fn first cap) w:=λ_ _ _ _=>rfl
 have hz:=zero_tab
 go_enter Tryz.func67,Tryz.ntmps67
 go_wp2_with fail
 refine (q67 { data:=#[97,98,99,100,101,102,103,104,105,106,107,108,109,110,111,112,113,114,115,116,117,118,119,120,121,122,65,66,67,68,69,70,71,72,73,74,75,76,77,78,79,80,81,82,83,84,85,86,87,88,89,90] } 3 w _ tab0 (by show 52≤1000;omega) qcj).mono ?_
 rintro e w' ⟨rfl,rfl⟩;rw [show q1h tab0 ({ data:=#[97,98,99,100,101,102,103,104,105,106,107,108,109,110,111,112,113,114,115,116,117,118,119,120,121,122,65,66,67,68,69,70,71,72,73,74,75,76,77,78,79,80,81,82,83,84,85,86,87,88,89,90] }:ByteArray).data.toList 3=tab1 from rfl]
 go_wp2_with fail
 refine (q67 { data:=#[48,49,50,51,52,53,54,55,56,57] } 4 w _ tab1 (by show 10≤1000;omega) tab1_size).mono ?_
 rintro e w' ⟨rfl,rfl⟩;rw [show q1h tab1 ({ data:=#[48,49,50,51,52,53,54,55,56,57] }:ByteArray).data.toList 4=tab2 from rfl]
 go_wp2_with fail
 refine (q67 { data:=#[95] } 5 w _ tab2 (by show 1≤1000;omega) tab2_size).mono ?_
 rintro e w' ⟨rfl,rfl⟩;rw [show q1h tab2 ({ data:=#[95] }:ByteArray).data.toList 5=tab3 from rfl]
 go_wp2_with fail
 refine (q67 { data:=#[32,9,10] } 1 w _ tab3 (by show 3≤1000;omega) tab3_size).mono ?_
 rintro e w' ⟨rfl,rfl⟩;rw [show q1h tab3 ({ data:=#[32,9,10] }:ByteArray).data.toList 1=tab4 from rfl]
 go_wp2_with fail
 refine (q67 { data:=#[35] } 2 w _ tab4 (by show 1≤1000;omega) tab4_size).mono ?_
 rintro e w' ⟨rfl,rfl⟩;rw [show q1h tab4 ({ data:=#[35] }:ByteArray).data.toList 2=tab5 from rfl]
 go_wp2_with fail
 refine (q67 { data:=#[34] } 6 w _ tab5 (by show 1≤1000;omega) tab5_size).mono ?_
 rintro e w' ⟨rfl,rfl⟩;rw [show q1h tab5 ({ data:=#[34] }:ByteArray).data.toList 6=tab6 from rfl]
 go_wp2_with fail
 refine (q67 { data:=#[33] } 7 w _ tab6 (by show 1≤1000;omega) tab6_size).mono ?_
 rintro e w' ⟨rfl,rfl⟩;rw [show q1h tab6 ({ data:=#[33] }:ByteArray).data.toList 7=tab7 from rfl]
 go_wp2_with fail
 refine (q67 { data:=#[60,62] } 8 w _ tab7 (by show 2≤1000;omega) tab7_size).mono ?_
 rintro e w' ⟨rfl,rfl⟩;rw [show q1h tab7 ({ data:=#[60,62] }:ByteArray).data.toList 8=tab8 from rfl]
 go_wp2_with fail
 refine (q67 { data:=#[59,44,46,58,40,41,91,93,123,125,61,43,45] } 9 w _ tab8 (by show 13≤1000;omega) tab8_size).mono ?_
 rintro e w' ⟨rfl,rfl⟩;rw [show q1h tab8 ({ data:=#[59,44,46,58,40,41,91,93,123,125,61,43,45] }:ByteArray).data.toList 9=tab9 from rfl];rw [tab_all]
 go_wp2_with (first | (refine wpList_load_row rfl 79 _ rfl (w.heap.size+1) rfl 79 q3t (0,0) _ (heap_two w _ _) Tryz.underlying79 rfl (by rw [q6j];exact qjs) ?_) | (refine wpList_store_row rfl 79 _ _ rfl w.heap.size q3t rfl rfl 79 tab0 ?h1 (by rw [q6j];exact qjs) (by rw [q6j,qcj]) qk7 ?_))
 case h1=>exact heap_alloc2_old w _ _
 have hh:((((w.alloc (.cells tab0 79)).alloc (.cells q3t 79))).setRow w.heap.size q3t).heap[w.heap.size]? = some (.cells q3t 79 (0,0)) :=
  setRow_heap _ _ tab0 _ _ (heap_alloc2_old w _ _)
 refine bodyPost_ret (results_cell_row rfl _ _ w.heap.size 79 q3t (0,0) _ rfl hh Tryz.underlying79 rfl (by rw [q6j];exact qjs)) rfl ⟨rfl,?_⟩
 refine (((Below.refl w.heap.size w).alloc (Nat.le_refl _) (.cells tab0 79)).alloc (by simp) (.cells q3t 79)).trans ⟨rfl,rfl,rfl,by simp,λk hk=>?_⟩
 simp only [World.setRow,Array.getElem?_modify];rw [if_neg (by omega)]
end Go.Proofs.YtednmlmllbkhhaaGreatDoor
namespace Go.Proofs.YtednmlmllbkhhaaGreatDoor
open Go.RowKit
attribute [local go_sem] q4w q3q q45
def Lx.Tok.cells (t:Lx.Tok):List Value:=[.int .i64 t.kind,.int .i64 t.pos,.int .i64 t.n,.string (bs t.text)]
def q51 (l:List Lx.Tok):List Value:=l.flatMap Lx.Tok.cells
theorem qk6 (l r:List Lx.Tok):q51 (l++r)=q51 l++q51 r:=by simp [q51]
def TokRow (w:World) (base:Nat) (v:Value) (l:List Lx.Tok):Prop:=w.ownsRow base 62 4 v l.length (q51 l)
theorem info_tok:(Tryz.prog.info? 62).map (λi=>(i.zero,i.size,i.bytes))=some (some (.agg #[.int .i64 0,.int .i64 0,.int .i64 0,.string { data:=#[] }]),4,40):=by kernel_rfl
def q2a (s:ByteArray):Array Value:=#[.string s]++q3t
theorem qdn (s:ByteArray):(q2a s).size=257:=by
 unfold q2a;rw [Array.size_append,q6j];rfl
theorem qlr (s:ByteArray):(q2a s).all (·.oneCell')=true:=by
 unfold q2a;rw [Array.all_append,qk7];simp [Value.oneCell']
theorem zeroScan:∀ w,(zeroValue 82).run Tryz.prog w=.ok (.agg (#[.string { data:=#[] }]++tab0)) w:=λ_=>by kernel_rfl
theorem builtScan (s:ByteArray):Tryz.prog.built 82 [(0,.string s),(1,.agg q3t)]=some (q2a s):=by kernel_rfl
theorem infoScan:(Tryz.prog.info? 82).map (·.size)=some 257:=by kernel_rfl
theorem scan_new (w:World) (s:ByteArray) (t:TypeId) (g:Nat) (h:Blk w g t (q2a s)):Scan w g s:=by
 refine ⟨(h.cell 0).trans ?_,λc=>(h.cell _).trans ?_⟩
 ·unfold q2a
  rw [Array.getElem?_append_left (by simp)]
  rfl
 ·unfold q2a
  rw [Array.getElem?_append_right (by simp)]
  simp only [List.size_toArray,List.length_singleton,Nat.add_sub_cancel_left];exact clsTab_at c
end Go.Proofs.YtednmlmllbkhhaaGreatDoor
namespace Go.Proofs.YtednmlmllbkhhaaGreatDoor
open Go.RowKit
attribute [local go_sem] q4w q3q q45
theorem setRow_last (w:World) (c c':Array Value) (t:TypeId):(w.alloc (.cells c t)).setRow w.heap.size c'=w.alloc (.cells c' t):=World.setRow_alloc_new w c c' t
structure LexRel (s:ByteArray) (w0:World) (out i:Value) (wr:World):Prop where
 ex:∃ (A:Option Addr) (c k f:Nat) (l:List Lx.Tok),out=.slice A l.length c∧i=.int .i64 k∧k≤s.size∧l.length≤5000 ∧
  wr.ownsRow w0.heap.size 62 4 out l.length (q51 l)∧s.size<f+k∧Lx.q5r f l k (s.data.toList.drop k)=Lx.lex s.data.toList
 below:Below w0.heap.size w0 wr
set_option maxRecDepth 100000 in
set_option maxHeartbeats 400000 in
theorem lex_any (s:ByteArray) (w:World) (hs:s.size≤9223372036854775807) :
  Calls Tryz.prog 43 #[.string s] w λe w'=>∃ v,e=.returned (.tuple #[v,.int .i64 (Lx.lex s.data.toList).2.1,.int .i64 (Lx.lex s.data.toList).2.2]) ∧
   TokRow w' w.heap.size v (Lx.lex s.data.toList).1∧Below w.heap.size w w':=by
 by_cases hbig:20000<s.size
 ·have hl:Lx.lex s.data.toList=([],2,-1):=by
   unfold Lx.lex;rw [if_pos (by rw [← q0l];exact hbig)]
  rw [hl];clear hl
  go_enter Tryz.func43,Tryz.ntmps43
  go_wp2
  go_ret3
  exact ⟨_,rfl,⟨rfl,.inl ⟨rfl,rfl⟩⟩,q06 w⟩
 ·have hz:=zeroScan
  go_enter Tryz.func43,Tryz.ntmps43
  go_wp2_with fail
  refine (classes_any _).mono ?_;rintro e w1 ⟨rfl,hb1⟩;have HB1:=Lib.hid hb1;clear hb1
  go_wp2_with (first | (refine qkq rfl 82 _ rfl [(0,.string s),(1,.agg q3t)] rfl (q2a s) (builtScan s) ?_) | (refine wpList_store_row rfl 82 _ _ rfl w1.heap.size (q2a s) rfl rfl 82 _ (heap_alloc_last w1 _) (by rw [qdn];exact infoScan) (by rw [qdn,Array.size_append,qcj];rfl) (qlr s) ?_))
  rw [setRow_last w1 _ (q2a s)]
  go_wp2_with fail
  refine (gap_any w1.heap.size s 0 _ (by omega) (by omega) (by omega) (by simp) (scan_new _ s _ _ (Blk.new w1 _ _))).mono ?_
  rintro e w2 ⟨rfl,hb2⟩;rw [show (0:Int).toNat=0 from rfl,List.drop_zero,Nat.zero_add];have hw0:Below w.heap.size w (w1.alloc (.cells (q2a s) 82)):=q0d HB1.out _;have hS0:=scan_new _ s _ _ (Blk.new w1 82 (q2a s));have hlt0:w1.heap.size<(w1.alloc (.cells (q2a s) 82)).heap.size:=by simp
  generalize hW0:w1.alloc (.cells (q2a s) 82)=W0 at *
  generalize hB0:w1.heap.size=b0 at *
  clear hW0 hz;have hg0:=Lx.gap_le s.data.toList;rw [← q0l] at hg0;have hl:Lx.q5r (s.data.toList.length+1) [] (Lx.gap s.data.toList) (s.data.toList.drop (Lx.gap s.data.toList))=Lx.lex s.data.toList:=by
   unfold Lx.lex;rw [if_neg (by rw [← q0l];exact hbig)]
  have HL:=Lib.hid hl;have HW0:=Lib.hid hw0;have HS0:=Lib.hid hS0;have HB2:=Lib.hid hb2;clear hl hw0 hS0 hb2
  go_wp2
  go_loopw [6,7] (λout i wr=>LexRel s W0 out i wr) (λ_ i _=>s.size-(intOf i).toNat)
  case atStart=>exact ⟨⟨none,0,_,_,[],rfl,rfl,hg0,by simp,⟨rfl,.inl ⟨rfl,rfl⟩⟩,by rw [q0l];omega,HL.out⟩,HB2.out⟩
  case round =>
   obtain ⟨⟨A,c,k,f,l,rfl,rfl,hk,hl5,hown,hf,hlex⟩,hbr⟩:=hrel;have HOWN:=Lib.hid hown;have HLEX:=Lib.hid hlex;clear hown hlex HL HB2;have hSr:=HS0.out.below hbr hlt0;have hszr:=hbr.size;have HBR:=Lib.hid hbr;have HSR:=Lib.hid hSr;clear hbr hSr;by_cases hlt:k<s.size
   ·obtain ⟨f,rfl⟩:∃ f',f=f'+1:=⟨f-1,by omega⟩
    have hd:=q1r s k hlt;have hlex:=HLEX.out;rw [hd] at hlex;have HLX:=Lib.hid hlex;have HD:=Lib.hid hd;clear hlex hd HLEX
    go_wp2_with fail
    refine (next_any b0 s k _ (by omega) (by omega) (by omega) (by omega) HSR.out).mono ?_
    rintro e w3 ⟨rfl,hb3⟩;rw [Int.toNat_natCast];have hw:=Lx.qep (s.data.toList.drop k);unfold Lx.Fits at hw;rw [List.length_drop,← q0l] at hw;have h1:=Lx.lexAt_full f l k s[k] (s.data.toList.drop (k+1));have h2:=Lx.lexAt_err f l k s[k] (s.data.toList.drop (k+1));have h3:=Lx.lexAt_tok f l k s[k] (s.data.toList.drop (k+1));have hlx:=HLX.out;rw [← HD.out] at h1 h2 h3 hlx;obtain ⟨q,hq,hq2⟩:∃ q:Int,(Lx.scan (s.data.toList.drop k)).out k=.agg #[.int .i64 (Lx.scan (s.data.toList.drop k)).kind,.int .i64 q,.int .i64 (Lx.scan (s.data.toList.drop k)).n,.string (bs (Lx.scan (s.data.toList.drop k)).text)] ∧
      ((Lx.scan (s.data.toList.drop k)).err=0→q=k):=⟨_,rfl,λh=>by rw [if_pos h]⟩
    rw [hq];clear hq HLX HD;generalize Lx.scan (s.data.toList.drop k)=r at *
    obtain ⟨err,kind,n,text,width⟩:=r;simp only [] at hw h1 h2 h3 hq2;simp only [Lx.Sc.fin];by_cases he:err=0
    ·subst he
     rw [if_pos rfl];obtain rfl:=hq2 rfl;obtain ⟨hw1,hw2⟩:=hw rfl;by_cases hfull:l.length=5000
     ·have hfin:=h1 rfl hfull
      rw [hlx] at hfin;have HFIN:=Lib.hid hfin;have hfull':((l.length:Int)==5000)=true:=by rw [beq_iff_eq];omega
      clear hfin hlx h1 h2 h3 hfull;have HB3:=Lib.hid hb3;clear hb3
      go_wp2
      go_ret3
      refine ⟨.slice none 0 0,?_,?_,?_⟩
      ·rw [HFIN.out];rfl
      ·rw [HFIN.out];exact ⟨rfl,.inl ⟨rfl,rfl⟩⟩
      ·exact HW0.out.trans ((HBR.out.trans ((q0d HB3.out _).mono hszr)).mono HW0.out.size)
     ·have hfin:=h3 rfl hfull
      rw [hlx] at hfin;have HFIN:=Lib.hid hfin;have hfull':((l.length:Int)==5000)=false:=by rw [beq_eq_false_iff_ne];omega
      have hlenb:l.length+1≤5000:=by omega
      clear hfin hlx h1 h2 h3 hfull;have HB3:=Lib.hid hb3;clear hb3;obtain ⟨i0,hi0,hz0,hz1,hz2⟩:=info_parts info_tok;have hub:∀ u∈[Value.int .i64 kind,.int .i64 k,.int .i64 n,.string (bs text)],u.oneCell'=true:=by simp [Value.oneCell']
      have HUB:=Lib.hid hub;clear hub;have hb3z:=HB3.out.size
      go_wp2_with (first | (at_builtin;refine wpList_append_own _ rfl _ _ 58 rfl W0.heap.size 62 i0 (.agg #[.int .i64 0,.int .i64 0,.int .i64 0,.string { data:=#[] }]) 4 40 Tryz.underlying58 hi0 hz0 hz1 hz2 rfl (by decide) _ l.length (q51 l) rfl (q71 (q71 (q71 HOWN.out HB3.out) (q0d (q06 w3) _)) (q0d (q06 _) _)) ⟨w3.heap.size+1,0,none⟩ 1 1 [.int .i64 kind,.int .i64 k,.int .i64 n,.string (bs text)] rfl rfl (by exact cells_new _ [.int .i64 kind,.int .i64 k,.int .i64 n,.string (bs text)] _ _ (by simp)) HUB.out (by unfold maxLen;omega) (by omega) (by simp;omega) ?_;intro v' w4 hown4 hg4 _))
      obtain ⟨A',c',rfl⟩:=slice_of_row hown4;have hbel4:Below W0.heap.size W0 w4:=(HBR.out.trans (HB3.out.mono hszr)).trans ((((q06 w3).alloc (Nat.le_refl _) _).alloc (by simp) _).mono (by omega)) |>.grown hg4 (by simp;omega) (q2p HOWN.out)
      have hS4:=HS0.out.below hbel4 hlt0;have hz4:=hbel4.size;have HBEL4:=Lib.hid hbel4;have HOWN4:=Lib.hid hown4;clear hbel4 hown4 hg4;refine (gap_any b0 s _ _ (by omega) (by omega) (by omega) (by omega) hS4).mono ?_
      rintro e w5 ⟨rfl,hb5⟩;rw [show ((k:Int)+(width:Int)).toNat=k+width from by omega]
      have hgl:=Lx.gap_le (s.data.toList.drop (k+width));rw [List.length_drop,← q0l] at hgl;have hfin:=HFIN.out;rw [List.drop_drop,List.drop_drop] at hfin;have HFIN2:=Lib.hid hfin;clear hfin HFIN;generalize Lx.gap (s.data.toList.drop (k+width))=gg at *
      have HB5:=Lib.hid hb5;clear hb5 hS4
      go_wp2
      go_roundw
      case rel =>
       refine ⟨⟨A',c',k+width+gg,f,l++[Lx.Sc.tok ⟨0,kind,n,text,width⟩ k],?_,by go_num,by omega,?_,?_,by omega,?_⟩,HBEL4.out.trans (HB5.out.mono hz4)⟩
       ·rw [List.length_append];rfl
       ·rw [List.length_append];exact hlenb
       ·have h5:=q71 HOWN4.out HB5.out
        rw [qk6,List.length_append];exact h5
       ·rw [← HFIN2.out]
      case measure=>simp [intOf];omega
    ·rw [if_neg he]
     have hfin:=h2 he;rw [hlx] at hfin;have HFIN:=Lib.hid hfin;have he':(err==0)=false:=by rw [beq_eq_false_iff_ne];exact he
     have he'':(err != 0)=true:=by rw [bne_iff_ne];exact he
     clear hfin hlx h1 h2 h3 he hw hq2;have HB3:=Lib.hid hb3;clear hb3
     go_wp2
     go_ret3
     refine ⟨.slice none 0 0,?_,?_,?_⟩
     ·rw [HFIN.out];rfl
     ·rw [HFIN.out];exact ⟨rfl,.inl ⟨rfl,rfl⟩⟩
     ·exact HW0.out.trans ((HBR.out.trans ((q0d HB3.out _).mono hszr)).mono HW0.out.size)
   ·have hk2:k=s.size:=by omega
    have hd:s.data.toList.drop k=[]:=List.drop_eq_nil_of_le (by rw [← q0l];omega)
    have hfin:=HLEX.out;rw [hd,Lx.lexAt_nil] at hfin;have HFIN:=Lib.hid hfin;clear hfin hd HLEX;have HK2:=Lib.hid hk2;clear hk2
    go_wp2
    go_ret3
    refine ⟨.slice A l.length c,?_,?_,HW0.out.trans (HBR.out.mono HW0.out.size)⟩
    ·rw [← HFIN.out];rfl
    ·rw [← HFIN.out]
     exact q9r HOWN.out HW0.out.size
end Go.Proofs.YtednmlmllbkhhaaGreatDoor
set_option linter.unusedVariables false
namespace Go.Proofs.YtednmlmllbkhhaaGreatDoor
open Go.RowKit R Geo.Zn
set_option maxRecDepth 100000 in
theorem qjy:cOn.Holds Tryz.prog:=by
 refine q0h (cons:=[]) Tryz.func37 (by kernel_rfl) (by kernel_rfl) mixed (by kernel_rfl) all_nil (λ_=>[]) λp hp=>?_
 obtain ⟨x,y⟩:=p;refine cast ?_ (on_vc x y)
 kernel_rfl
set_option maxRecDepth 100000 in
theorem qby:cOnL.Holds Tryz.prog:=by
 refine q0h (cons:=[cOn]) Tryz.func105 (by kernel_rfl) (by kernel_rfl) mixed (by kernel_rfl) (all_cons qjy all_nil) (λp=>anOnL p) λp hp=>?_
 refine cast ?_ (onL_vc p hp)
 kernel_rfl
set_option maxRecDepth 100000 in
theorem qao:cFrom.Holds Tryz.prog:=by
 refine q0h (cons:=[]) Tryz.func109 (by kernel_rfl) (by kernel_rfl) mixed (by kernel_rfl) all_nil (λ_=>[]) λp hp=>?_
 obtain ⟨⟨a,b⟩,c,d⟩:=p;refine cast ?_ (from_vc a b c d hp)
 kernel_rfl
set_option maxRecDepth 100000 in
theorem qie:cAlong.Holds Tryz.prog:=by
 refine q0h (cons:=[]) Tryz.func110 (by kernel_rfl) (by kernel_rfl) mixed (by kernel_rfl) all_nil (λ_=>[]) λp hp=>?_
 obtain ⟨⟨a,b⟩,c,d⟩:=p;refine cast ?_ (along_vc a b c d hp)
 kernel_rfl
set_option maxRecDepth 100000 in
theorem area_holds:cArea.Holds Tryz.prog:=by
 refine q0h (cons:=[]) Tryz.func128 (by kernel_rfl) (by kernel_rfl) mixed (by kernel_rfl) all_nil (λ_=>[]) λp hp=>?_
 obtain ⟨⟨a,b⟩,c,d⟩:=p;refine cast ?_ (area_vc a b c d hp)
 kernel_rfl
set_option maxRecDepth 100000 in
theorem qfa:cOpen.Holds Tryz.prog:=by
 refine q0h (cons:=[cFrom]) Tryz.func106 (by kernel_rfl) (by kernel_rfl) mixed (by kernel_rfl) (all_cons qao all_nil) (λ_=>[]) λp hp=>?_
 obtain ⟨⟨a,b⟩,c,d⟩:=p;refine cast ?_ (open_vc a b c d hp)
 kernel_rfl
set_option maxRecDepth 100000 in
theorem qf8:cSide.Holds Tryz.prog:=by
 refine q0h (cons:=[cFrom,cArea]) Tryz.func107 (by kernel_rfl) (by kernel_rfl) mixed (by kernel_rfl) (all_cons qao (all_cons area_holds all_nil)) (λ_=>[]) λp hp=>?_
 obtain ⟨⟨a,b,c,d,e,f⟩,x,y⟩:=p;refine cast ?_ (side_vc a b c d e f x y hp)
 kernel_rfl
set_option maxRecDepth 100000 in
theorem turn_holds:cTurn.Holds Tryz.prog:=by
 refine q0h (cons:=[cOnL,cOpen,cSide]) Tryz.func72 (by kernel_rfl) (by kernel_rfl) mixed (by kernel_rfl) (all_cons qby (all_cons qfa (all_cons qf8 all_nil))) (λ_=>[]) λp hp=>?_
 obtain ⟨⟨a,b⟩,⟨c,d⟩,x,y⟩:=p;refine cast ?_ (turn_vc a b c d x y)
 kernel_rfl
set_option maxRecDepth 100000 in
theorem dist_holds:cDist.Holds Tryz.prog:=by
 refine q0h (cons:=[cOnL,cFrom,cAlong]) Tryz.func81 (by kernel_rfl) (by kernel_rfl) mixed (by kernel_rfl) (all_cons qby (all_cons qao (all_cons qie all_nil))) (λ_=>[]) λp hp=>?_
 obtain ⟨⟨a,b⟩,c,d⟩:=p;refine cast ?_ (dist_vc a b c d)
 kernel_rfl
set_option maxRecDepth 100000 in
theorem bet_holds:cBet.Holds Tryz.prog:=by
 refine q0h (cons:=[cOnL,cOpen,cSide,cFrom,cAlong]) Tryz.func78 (by kernel_rfl) (by kernel_rfl) mixed (by kernel_rfl) (all_cons qby (all_cons qfa (all_cons qf8 (all_cons qao (all_cons qie all_nil))))) (λ_=>[]) λp hp=>?_
 obtain ⟨⟨x,y⟩,⟨a,b⟩,c,d⟩:=p;refine cast ?_ (bet_vc x y a b c d)
 kernel_rfl
theorem fSide_holds:fSide.Holds Tryz.prog:=by
 refine ⟨⟨_,Tryz.func107,by kernel_rfl,by kernel_rfl⟩,λp b vs fvs w S hS hp hvs hfa=>?_⟩
 have hfa:fvs=[]:=hfa;subst hfa;rw [List.append_nil];refine Calls.mono (qf8.2 p vs w S hS hp hvs) ?_;rintro e w' ⟨r,v,rfl,hr,hv,hbl⟩;have hr:r=q1a p.1 p.2:=hr;subst hr;exact ⟨hbl,v,rfl,hv⟩
theorem kitCr_ok:kitCr.Ok Tryz.prog where
 cons:=all_cons qby (all_cons qfa (all_cons bet_holds all_nil))
 ns:=all_nil
 os:=all_nil
 fcs:=all_cons fSide_holds all_nil
 rcs:=all_nil
 inls:=q0g.more Tryz.func108 (by kernel_rfl) (by kernel_rfl) q0g.nil
set_option maxRecDepth 100000000 in
theorem qib:cCross.Holds Tryz.prog:=by
 refine q5u (T:=kitCr) (λp=>anCrI p.1 p.2.1 p.2.2.1 p.2.2.2) Tryz.func73 (by kernel_rfl) (by kernel_rfl) mixed (by kernel_rfl) kitCr_ok (λ_=>[joinAt 1 [4,5,6,7,8,9,10]]) λp hp=>?_
 obtain ⟨⟨a,b⟩,⟨c,d⟩,⟨e,f⟩,x,y⟩:=p;refine cast ?_ (cross_vc a b c d e f x y hp)
 kernel_rfl
open Zl
set_option maxRecDepth 100000 in
theorem q5b:cRfOn.Holds Tryz.prog:=by
 refine q0h (cons:=[]) Tryz.func21 (by kernel_rfl) (by kernel_rfl) mixed (by kernel_rfl) all_nil (λ_=>[]) λp hp=>?_
 obtain ⟨x,y⟩:=p;refine cast ?_ (rfOn_vc x y)
 kernel_rfl
set_option maxRecDepth 100000 in
theorem rfAll_holds:cRfAll.Holds Tryz.prog:=by
 refine q0h (cons:=[cRfOn]) Tryz.func50 (by kernel_rfl) (by kernel_rfl) mixed (by kernel_rfl) (all_cons q5b all_nil) (λp=>anRfAll p) λp hp=>?_
 refine cast ?_ (rfAll_vc p hp)
 kernel_rfl
set_option maxRecDepth 100000 in
theorem qb4:qd0.Holds Tryz.prog:=by
 refine q0h (cons:=[]) Tryz.func76 (by kernel_rfl) (by kernel_rfl) mixed (by kernel_rfl) all_nil (λ_=>[]) λp hp=>?_
 obtain ⟨⟨a,b⟩,⟨c,d⟩,e,f⟩:=p;refine cast ?_ (rfArea_vc a b c d e f hp)
 kernel_rfl
set_option maxRecDepth 100000 in
theorem rfSign_holds:cRfSign.Holds Tryz.prog:=by
 refine q0h (cons:=[]) Tryz.func75 (by kernel_rfl) (by kernel_rfl) mixed (by kernel_rfl) all_nil (λ_=>[]) λp hp=>?_
 refine cast ?_ (rfSign_vc p)
 kernel_rfl
set_option maxRecDepth 100000 in
theorem qgb:cRfTurn.Holds Tryz.prog:=by
 refine q0h (cons:=[cRfOn,qd0,cRfSign]) Tryz.func52 (by kernel_rfl) (by kernel_rfl) mixed (by kernel_rfl) (all_cons q5b (all_cons qb4 (all_cons rfSign_holds all_nil))) (λ_=>[]) λp hp=>?_
 obtain ⟨⟨a,b⟩,⟨c,d⟩,e,f⟩:=p;refine cast ?_ (rfTurn_vc a b c d e f)
 kernel_rfl
set_option maxRecDepth 100000 in
theorem rfDist_holds:cRfDist.Holds Tryz.prog:=by
 refine q0h (cons:=[cRfOn]) Tryz.func112 (by kernel_rfl) (by kernel_rfl) mixed (by kernel_rfl) (all_cons q5b all_nil) (λ_=>[]) λp hp=>?_
 obtain ⟨⟨a,b⟩,c,d⟩:=p;refine cast ?_ (rfDist_vc a b c d)
 kernel_rfl
set_option maxRecDepth 100000 in
theorem qi6:cRfBet.Holds Tryz.prog:=by
 refine q0h (cons:=[cRfOn,qd0]) Tryz.func77 (by kernel_rfl) (by kernel_rfl) mixed (by kernel_rfl) (all_cons q5b (all_cons qb4 all_nil)) (λ_=>[]) λp hp=>?_
 obtain ⟨⟨a,b⟩,⟨c,d⟩,e,f⟩:=p;refine cast ?_ (rfBet_vc a b c d e f)
 kernel_rfl
set_option maxRecDepth 100000 in
theorem qfw:qk2.Holds Tryz.prog:=by
 refine q0h (cons:=[cRfOn,cRfBet,cRfTurn]) Tryz.func53 (by kernel_rfl) (by kernel_rfl) mixed (by kernel_rfl) (all_cons q5b (all_cons qi6 (all_cons qgb all_nil))) (λ_=>[]) λp hp=>?_
 obtain ⟨⟨a,b⟩,⟨c,d⟩,⟨e,f⟩,x,y⟩:=p;refine cast ?_ (rfCross_vc a b c d e f x y)
 kernel_rfl
set_option maxRecDepth 100000 in
theorem q62:q9h.Holds Tryz.prog:=by
 refine q0h (cons:=[]) Tryz.func54 (by kernel_rfl) (by kernel_rfl) mixed (by kernel_rfl) all_nil (λ_=>[]) λp hp=>?_
 obtain ⟨r,i⟩:=p;refine cast ?_ (rgNext_vc r i hp)
 kernel_rfl
set_option maxRecDepth 100000 in
theorem rgSum_holds:cRgSum.Holds Tryz.prog:=by
 refine q0h (cons:=[q9h]) Tryz.func51 (by kernel_rfl) (by kernel_rfl) mixed (by kernel_rfl) (all_cons q62 all_nil) (λp=>anRgSum p) λp hp=>?_
 refine cast ?_ (rgSum_vc p hp)
 kernel_rfl
set_option maxRecDepth 100000 in
theorem qdi:qc0.Holds Tryz.prog:=by
 refine q0h (cons:=[]) Tryz.func66 (by kernel_rfl) (by kernel_rfl) mixed (by kernel_rfl) all_nil (λ_=>[]) λp hp=>?_
 obtain ⟨x,y⟩:=p;refine cast ?_ (rgDouble_vc x y hp)
 kernel_rfl
set_option maxRecDepth 100000 in
theorem q6v:q97.Holds Tryz.prog:=by
 refine q0h (cons:=[cRfAll,cRgSum,cRfTurn,q9h,qk2]) Tryz.func27 (by kernel_rfl) (by kernel_rfl) mixed (by kernel_rfl) (all_cons rfAll_holds (all_cons rgSum_holds (all_cons qgb (all_cons q62 (all_cons qfw all_nil))))) (λp=>anRgValid p) λp hp=>?_
 refine cast ?_ (rgValid_vc p hp)
 kernel_rfl
set_option maxRecDepth 100000 in
theorem qfl:qdz.Holds Tryz.prog:=by
 refine q0h (cons:=[q9h,qc0,qd0]) Tryz.func65 (by kernel_rfl) (by kernel_rfl) mixed (by kernel_rfl) (all_cons q62 (all_cons qdi (all_cons qb4 all_nil))) (λp=>anRgPlace p.1 p.2) λp hp=>?_
 obtain ⟨r,x,y⟩:=p;refine cast ?_ (rgPlace_vc r x y hp)
 kernel_rfl
set_option maxRecDepth 100000 in
theorem qls:qjm.Holds Tryz.prog:=by
 refine q0h (cons:=[q97,cRfOn,qc0,qdz]) Tryz.func41 (by kernel_rfl) (by kernel_rfl) mixed (by kernel_rfl) (all_cons q6v (all_cons q5b (all_cons qdi (all_cons qfl all_nil)))) (λ_=>[]) λp hp=>?_
 obtain ⟨r,x,y⟩:=p;refine cast ?_ (rgWhere_vc r x y hp)
 kernel_rfl
set_option maxRecDepth 100000 in
theorem qbz:qaj.Holds Tryz.prog:=by
 refine q0h (cons:=[q9h,qk2]) Tryz.func60 (by kernel_rfl) (by kernel_rfl) mixed (by kernel_rfl) (all_cons q62 (all_cons qfw all_nil)) (λp=>anRgCrossed p.1 p.2) λp hp=>?_
 obtain ⟨x,y⟩:=p;refine cast ?_ (rgCrossed_vc x y hp)
 kernel_rfl
def pRow (l:List P2):Row:=⟨24,kPt,l⟩
def ptCells (p:P2):List Cell:=[.val (.int .i64) p.1,.val (.int .i64) p.2]
def cRgMid:Con:=.of 85 [q1c,q1c] [q1c] (λq=>(List.length q.1≤12∧q05 q.1=true)∧List.length q.2≤12∧q05 q.2=true) (λq=>q02 q.1 q.2)
def q9m (y:List P2) (at_ to:P2) (k:Nat) (s:P2):Prop:=(s=to∨∃ j,j<k∧y[j]? = some s∧s≠at_∧betI s at_ to=true)∧∀ j p,j<k→y[j]? = some p→p≠at_→betI p at_ to=true→q0f at_ s≤q0f at_ p
def anRgMid (x y:List P2):List (Nat×Ann) :=
 [annX 0 Nat (λst k=>st.hd { live:=[0,1],sav:=[],box:=[] } [(5,ownAV 73),(6,R.int .i64 k)] [] [(73,pRow (q36 x y k))] [] none) (λ_ k=>k≤x.length) (λ_ k=>x.length-k),
  annX 2 (Nat×P2) (λst p=>st.hd { live:=[0,1,6,7,8,9],sav:=[],box:=[7,8] } [(5,ownAV 73)] [(9,ptCells p.2)] [(73,pRow (q36 x y (st.intOf 6).toNat++(q2j (q0p y (Get.q3n kPt 7 st) (Get.q3n kPt 8 st))).take p.1))] [] none)
   (λst p=>(q0p y (Get.q3n kPt 7 st) (Get.q3n kPt 8 st))[p.1]? = some p.2) (λst p=>(q0p y (Get.q3n kPt 7 st) (Get.q3n kPt 8 st)).length-p.1),
  annX 4 (Nat×P2) (λst p=>st.hd { live:=[0,1,6,7,8,9,10],sav:=[],box:=[7,8,9] } [(5,ownAV 73),(11,R.int .i64 p.1)] [(10,ptCells p.2)] [(73,pRow (Get.rowP 73 st))] [] none)
   (λst p=>p.1≤y.length∧q9m y (Get.q3n kPt 9 st) (Get.q3n kPt 8 st) p.1 p.2) (λ_ p=>y.length-p.1)]
def q6k (r:List P2):Prop:=r.length≤12∧q05 r=true
def qez:Con:=.of 61 [q1c,q1c,q0n] [q0n] (λq=>q6k q.1∧q6k q.2.1) (λq=>(((q02 q.1 q.2.1).filter λm=>q1g q.2.1 m==q.2.2).length:Int))
def anRgCount (x y:List P2) (n:Int):List (Nat×Ann) :=
 [annX 0 Nat (λst k=>st.hd { live:=[1,2,7],sav:=[],box:=[] } [(8,R.int .i64 (((q02 x y).take k).filter λm=>q1g y m==n).length),(9,R.int .i64 k)] [] [] [] none) (λ_ k=>k≤(q02 x y).length) (λ_ k=>(q02 x y).length-k)]
def qg2:Con:=.of 36 [q1c,q1c] [q0u] (λq=>List.length q.1≤12∧List.length q.2≤12) (λq=>q0i q.1 q.2)
def qjt:Con:=.of 32 [q1c,q1c] [q0u] (λq=>List.length q.1≤12∧List.length q.2≤12) (λq=>q1k q.1 q.2)
end Go.Proofs.YtednmlmllbkhhaaGreatDoor
set_option linter.unusedSectionVars false
namespace Go.Proofs.YtednmlmllbkhhaaGreatDoor
namespace Geo
section
variable {n m:Nat} {v u:Nat→Pt} (hv:Ring n v) (hu:Ring m u)
include hv hu
theorem Ring.common {q:Pt} (hq:Inside m u q) (ho:OnR n v q):∃ p,Inside m u p∧Inside n v p:=by
 obtain ⟨i,_,t,t0,t1,e⟩:=ho;have key:∀ t':Rat,0<t'→t'<1→Inside m u (at_ (v i) (v (i+1)) t')→∃ p,Inside m u p∧Inside n v p:=λt' h0 h1 hin=>by
  obtain ⟨⟨w,hw,hi⟩,_⟩:=hv.beside i h0 h1;have hi':=hi w (by have:=qa7 (x:=crs (v i) (v (i+1)) w) (y:=0) (.inl hw);grind)
  obtain ⟨e,e0,ha,hb⟩:=(hi'.and (hu.open_ hin.1 w)).get;exact ⟨_,(hu.q4l (.of hb) hin.1).1 hin,ha⟩
 have small:Ev λe=>e<1:=⟨1,by decide,λe _ h=>h⟩
 have hmv:∀ k:Rat,mv (at_ (v i) (v (i+1)) t) k ((v (i+1)).1-(v i).1,(v (i+1)).2-(v i).2)=at_ (v i) (v (i+1)) (t+k):=λk=>by unfold mv at_;ext <;> grind
 have hmv':∀ k:Rat,mv (at_ (v i) (v (i+1)) t) k ((v i).1-(v (i+1)).1,(v i).2-(v (i+1)).2)=at_ (v i) (v (i+1)) (t-k):=λk=>by unfold mv at_;ext <;> grind
 rw [e] at hq;rcases q09 0 t with h0 | h0
 ·rcases q09 t 1 with h1 | h1
  ·exact key t h0 h1 hq
  ·obtain ⟨k,k0,ha,hb⟩:=((hu.open_ hq.1 ((v i).1-(v (i+1)).1,(v i).2-(v (i+1)).2)).and small).get
   rw [hmv'] at ha;exact key (t-k) (by grind) (by grind) ((hu.q4l (.of ha) hq.1).1 hq)
 ·obtain ⟨k,k0,ha,hb⟩:=((hu.open_ hq.1 ((v (i+1)).1-(v i).1,(v (i+1)).2-(v i).2)).and small).get
  rw [hmv] at ha;exact key (t+k) (by grind) (by grind) ((hu.q4l (.of ha) hq.1).1 hq)
theorem Ring.some_inside:∃ p,Inside m u p:=by
 obtain ⟨⟨w,hw,hi⟩,_⟩:=hu.beside 0 (t:=1 / 2) (by decide +kernel) (by decide +kernel)
 have hi':=hi w (by have:=qa7 (x:=crs (u 0) (u (0+1)) w) (y:=0) (.inl hw);grind)
 obtain ⟨e,_,h⟩:=hi'.get;exact ⟨_,h⟩
theorem Ring.apart_turn (hx:q3h n v m u) (h1:∀ p,q46 n v m u p→¬ Inside m u p) (h2:∀ p,q46 m u n v p→¬ Inside n v p) (h3:∃ p,q46 n v m u p∧Outside m u p):∃ p,q46 m u n v p∧Outside n v p :=
 Classical.byContradiction λhno=>by
  have hall:∀ p,q46 m u n v p→¬ Outside n v p:=λp hp ho=>hno ⟨p,hp,ho⟩
  obtain ⟨q,hq⟩:=hv.some_inside hu;have hw:=hu.within hv hx.turn hall (p:=q) λh=>hq.2 h.2
  obtain ⟨p,hp1,hp2⟩:∃ p,Inside m u p∧Inside n v p:=by
   rcases hv.qch q with h | h
   ·exact hv.common hu hq h
   ·exact ⟨q,hq,h,λh'=>hw ⟨h,h'⟩⟩
  exact hv.apart_inside hu hx h1 h2 h3 hp2 hp1
end
namespace Zn
theorem apart_comm {x y:List P2} (h:q1k x y=true):q1k y x=true:=by
 unfold q1k at *
 simp only [Bool.and_eq_true,Bool.not_eq_true'] at *
 obtain ⟨h1,h2,h3,h4,h5,h6⟩:=h;have hx:=q7u h1;have hy:=q7u h2;have hc:=(qif hx hy).1 h3;obtain ⟨m,hm,ho⟩:=List.any_eq_true.1 h4;refine ⟨h2,h1,(qif hy hx).2 hc.turn,?_,h6,h5⟩;obtain ⟨p,hp1,hp2⟩:=hx.ring.apart_turn hy.ring hc ((no_inside hx hy).1 h5) ((no_inside hy hx).1 h6) ⟨hp m,(q6i hx hy _).2 ⟨m,hm,rfl⟩,(qcu hy m).1 ho⟩;cases hf:(q02 y x).any (q0m x)
 ·exact absurd hp2 ((no_outside hy hx).1 hf p hp1)
 ·rfl
end Zn
end Geo
namespace Zl
open Geo Geo.Zn
theorem bless_lt:∀ (x y:List UInt8),Go.Op.bytesLess x y=decide (x<y)
 | [],[]=>by simp [Go.Op.bytesLess]
 | _::_,[]=>by simp [Go.Op.bytesLess]
 | [],_::_=>by simp [Go.Op.bytesLess]
 | a::x,b::y=>by
  rw [Go.Op.bytesLess,bless_lt x y];simp only [List.cons_lt_cons_iff];by_cases h1:a<b <;> by_cases h2:a=b <;> by_cases h3:x<y <;> simp [h1,h2,h3]
def q3s (s:Str) (d:Bool) (x:Str):List Str:=(if !d&&!Go.Op.bytesLess x s then [s] else [])++(if x==s then [] else [x])
def q11 (s:Str):Bool→List Str→List Str
 | _,[]=>[]
 | d,x::r=>q3s s d x++q11 s (d||!Go.Op.bytesLess x s) r
def putD (s:Str) (l:List Str):Bool:=l.any λx=>!Go.Op.bytesLess x s
def putL (p:List Str×Str):List Str:=q11 p.2 false p.1++(if putD p.2 p.1 then [] else [p.2])
theorem qj6 (s x:Str):∀ (l:List Str) (d:Bool),q11 s d (l++[x])=q11 s d l++q3s s (d||putD s l) x
 | [],d=>by
  show q3s s d x++[]=[]++q3s s (d||false) x;rw [List.append_nil,Bool.or_false];rfl
 | a::r,d=>by
  show q3s s d a++q11 s _ (r++[x])=(q3s s d a++q11 s _ r)++_;rw [qj6 s x r,List.append_assoc];show _=_++(_++q3s s (d||(!Go.Op.bytesLess a s||putD s r)) x);rw [Bool.or_assoc]
theorem putRun_take (s:Str) (l:List Str) {k:Nat} (h:k<l.length):q11 s false (l.take (k+1))=q11 s false (l.take k)++q3s s (putD s (l.take k)) (l.getD k []):=by
 rw [q2d l [] k h,qj6,Bool.false_or]
theorem putD_take (s:Str) (l:List Str) {k:Nat} (h:k<l.length):putD s (l.take (k+1))=(putD s (l.take k)||!Go.Op.bytesLess (l.getD k []) s):=qbp l [] _ k h
theorem qe1 (s:Str):∀ (l:List Str) (d:Bool),(q11 s d l).length≤2*l.length
 | [],_=>Nat.zero_le _
 | x::r,d=>by
  have:=qe1 s r (d||!Go.Op.bytesLess x s)
  have:(q3s s d x).length≤2:=by
   unfold q3s;rw [List.length_append];split <;> split <;> simp
  show (q3s s d x++_).length≤_;rw [List.length_append,List.length_cons];omega
abbrev Up (l:List Str):Prop:=l.Pairwise (λa b=>a<b)
theorem qj7 {s:Str}:∀ {l:List Str},(∀ x∈l,s<x)→q11 s true l=l
 | [],_=>rfl
 | x::r,h=>by
  have hx:=h x (List.mem_cons_self ..);show q3s s true x++q11 s (true||_) r=_;rw [Bool.true_or,qj7 λy hy=>h y (List.mem_cons_of_mem _ hy)]
  unfold q3s;rw [if_neg (by simp),if_neg (by rw [beq_iff_eq];rintro rfl;exact List.lt_irrefl _ hx)]
  rfl
theorem putL_cons {s x:Str} {r:List Str} (h:Up (x::r)):putL (x::r,s)=if x<s then x::putL (r,s) else if x=s then x::r else s::x::r:=by
 have hr:=(List.pairwise_cons.1 h).1;show (q3s s false x++q11 s (false||!Go.Op.bytesLess x s) r)++(if (!Go.Op.bytesLess x s||putD s r) then [] else [s])=_
 unfold q3s;rw [bless_lt,Bool.false_or];by_cases h1:x<s
 ·rw [if_pos h1,decide_eq_true h1]
  rw [if_neg (by simp),if_neg (by rw [beq_iff_eq];rintro rfl;exact List.lt_irrefl _ h1)]
  rfl
 ·rw [if_neg h1,decide_eq_false h1]
  have hp:∀ y∈r,s<y:=λy hy=>Std.lt_of_le_of_lt (List.not_lt.1 h1) (hr y hy)
  show ((if true then [s] else [])++_++q11 s true r)++(if true then [] else [s])=_
  rw [qj7 hp,if_pos rfl,if_pos rfl,List.append_nil];by_cases h2:x=s
  ·subst h2;rw [if_pos rfl,if_pos (by rw [beq_iff_eq])];rfl
  ·rw [if_neg h2,if_neg (by rw [beq_iff_eq];exact h2)];rfl
theorem putL_up {s:Str}:∀ {l:List Str},Up l→Up (putL (l,s))∧∀ y,y∈putL (l,s)↔y=s∨y∈l
 | [],_=>⟨List.pairwise_singleton _ _,λy=>by show y∈[s]↔_;simp⟩
 | x::r,h=>by
  obtain ⟨hx,hr⟩:=List.pairwise_cons.1 h;obtain ⟨i1,i2⟩:=putL_up (s:=s) hr;rw [putL_cons h];by_cases h1:x<s
  ·rw [if_pos h1]
   refine ⟨List.pairwise_cons.2 ⟨λy hy=>?_,i1⟩,λy=>?_⟩
   ·rcases (i2 y).1 hy with rfl | hy
    ·exact h1
    ·exact hx y hy
   ·rw [List.mem_cons,i2,List.mem_cons]
    constructor
    ·rintro (h | h | h)
     ·exact .inr (.inl h)
     ·exact .inl h
     ·exact .inr (.inr h)
    ·rintro (h | h | h)
     ·exact .inr (.inl h)
     ·exact .inl h
     ·exact .inr (.inr h)
  ·rw [if_neg h1]
   by_cases h2:x=s
   ·rw [if_pos h2]
    refine ⟨h,λy=>?_⟩
    rw [List.mem_cons];constructor
    ·intro h;exact .inr h
    ·rintro (h | h)
     ·exact .inl (h.trans h2.symm)
     ·exact h
   ·rw [if_neg h2]
    have hlt:s<x:=Std.lt_of_le_of_ne (List.not_lt.1 h1) (λe=>h2 e.symm)
    refine ⟨List.pairwise_cons.2 ⟨λy hy=>?_,h⟩,λy=>List.mem_cons⟩
    rcases List.mem_cons.1 hy with rfl | hy
    ·exact hlt
    ·exact List.lt_trans hlt (hx y hy)
def hitG (p:P2) (n:Int) (a:Ar):Bool:=decide (n≤q1i a.2.2 p)
def atG (l:List Ar) (k:Int) (p:P2) (n:Int):List Ar:=l.filter λa=>a.2.1==k&&hitG p n a
def atL (l:List Ar) (k:Int) (p:P2) (n:Int):List Str:=(atG l k p n).foldl (λo a=>putL (o,a.1)) []
theorem atL_snoc (l:List Ar) (a:Ar) (k:Int) (p:P2) (n:Int):atL (l++[a]) k p n=if (a.2.1==k&&hitG p n a) then putL (atL l k p n,a.1) else atL l k p n:=by
 unfold atL atG;rw [List.filter_append,List.foldl_append];by_cases h:(a.2.1==k&&hitG p n a)=true
 ·rw [if_pos h,List.filter_cons,if_pos h];rfl
 ·rw [if_neg h,List.filter_cons,if_neg h];rfl
theorem put_fold:∀ (m:List Ar) {o:List Str},Up o→Up (m.foldl (λo a=>putL (o,a.1)) o)∧∀ y,y∈m.foldl (λo a=>putL (o,a.1)) o↔y∈o∨∃ a∈m,a.1=y
 | [],o,h=>⟨h,λy=>⟨λh=>.inl h,λh=>h.elim id λ⟨_,h,_⟩=>by cases h⟩⟩
 | a::m,o,h=>by
  obtain ⟨i1,i2⟩:=putL_up (s:=a.1) h;obtain ⟨j1,j2⟩:=put_fold m i1;refine ⟨j1,λy=>?_⟩
  rw [List.foldl_cons,j2,i2];constructor
  ·rintro ((h | h) | ⟨b,hb,e⟩)
   ·exact .inr ⟨a,List.mem_cons_self ..,h.symm⟩
   ·exact .inl h
   ·exact .inr ⟨b,List.mem_cons_of_mem _ hb,e⟩
  ·rintro (h | ⟨b,hb,e⟩)
   ·exact .inl (.inr h)
   ·rcases List.mem_cons.1 hb with rfl | hb
    ·exact .inl (.inl e.symm)
    ·exact .inr ⟨b,hb,e⟩
theorem atL_up (l:List Ar) (k:Int) (p:P2) (n:Int):Up (atL l k p n)∧∀ y,y∈atL l k p n↔∃ a∈atG l k p n,a.1=y:=by
 obtain ⟨h1,h2⟩:=put_fold (atG l k p n) (o:=[]) List.Pairwise.nil;refine ⟨h1,λy=>(h2 y).trans ⟨λh=>h.elim (λh=>by cases h) id,.inr⟩⟩
theorem atL_len (l:List Ar) (k:Int) (p:P2) (n:Int):(atL l k p n).length≤l.length:=by
 have key:∀ (m:List Ar) (o:List Str),Up o→(m.foldl (λo a=>putL (o,a.1)) o).length≤o.length+m.length:=by
  intro m
  induction m with
  | nil=>intro o _;exact Nat.le_refl _
  | cons a m ih =>
   intro o ho;rw [List.foldl_cons,List.length_cons];have h1:=ih _ (putL_up (s:=a.1) ho).1;have h2:∀ {l:List Str},Up l→(putL (l,a.1)).length≤l.length+1:=by
    intro l
    induction l with
    | nil=>intro _;exact Nat.le_refl _
    | cons x r ihr =>
     intro h;have:=ihr (List.pairwise_cons.1 h).2;rw [putL_cons h];split
     ·simp only [List.length_cons];omega
     ·split <;> simp only [List.length_cons] <;> omega
   have:=h2 ho
   omega
 have:=key (atG l k p n) [] List.Pairwise.nil
 have h2:(atG l k p n).length≤l.length:=List.length_filter_le _ _;show ((atG l k p n).foldl (λo a=>putL (o,a.1)) []).length≤_
 simp only [List.length_nil] at this;omega
variable {q03:Str→Bool}
theorem atL_ids {l:List Ar} (h:q0k q03 l=true) (k:Int) (p:P2):atL l k p 0=idsZ l k p:=by
 refine qbl (atL_up l k p 0).1 (ids_lt h k p) λy=>?_
 rw [(atL_up l k p 0).2,ids_mem];unfold atG;constructor
 ·rintro ⟨a,ha,e⟩
  obtain ⟨ha,hb⟩:=List.mem_filter.1 ha;rw [Bool.and_eq_true,beq_iff_eq] at hb;exact ⟨a,ha,hb.1,of_decide_eq_true hb.2,e⟩
 ·rintro ⟨a,ha,e1,e2,e⟩
  exact ⟨a,List.mem_filter.2 ⟨ha,by rw [Bool.and_eq_true,beq_iff_eq];exact ⟨e1,decide_eq_true e2⟩⟩,e⟩
theorem atL_in (l:List Ar) (k:Int) (p:P2):decide (0<((atL l k p 1).length:Int))=inZ l k p:=by
 unfold inZ ofK;rw [Bool.eq_iff_iff,decide_eq_true_eq,List.any_eq_true];constructor
 ·intro h
  obtain ⟨y,hy⟩:=List.exists_mem_of_length_pos (show 0<(atL l k p 1).length by omega)
  obtain ⟨a,ha,_⟩:=((atL_up l k p 1).2 y).1 hy;obtain ⟨ha,hb⟩:=List.mem_filter.1 ha;rw [Bool.and_eq_true,beq_iff_eq] at hb;have h1:(1:Int)≤q1i a.2.2 p:=of_decide_eq_true hb.2;exact ⟨a,List.mem_filter.2 ⟨ha,by rw [beq_iff_eq];exact hb.1⟩,decide_eq_true (by omega)⟩
 ·rintro ⟨a,ha,hb⟩
  obtain ⟨ha,hk⟩:=List.mem_filter.1 ha;have h0:=of_decide_eq_true hb;have:=((atL_up l k p 1).2 a.1).2 ⟨a,List.mem_filter.2 ⟨ha,by rw [Bool.and_eq_true];exact ⟨hk,decide_eq_true (by omega)⟩⟩,rfl⟩
  have:=List.length_pos_of_mem this
  omega
def q49 (l:List Ar) (k:Int) (i n:Nat):Prop:=∀ m,m<n→(l.getD i ([],0,[])).2.1=k→(l.getD m ([],0,[])).2.1=k→q1k (l.getD i ([],0,[])).2.2 (l.getD m ([],0,[])).2.2=true
theorem apart_pairs {l:List Ar} (h:q0k q03 l=true) {k:Int} (hk:q1f k=true) (hp:∀ i,i<l.length→q49 l k i i):q34 q03 l k=true:=by
 unfold q34;rw [h,hk,Bool.true_and,Bool.true_and,List.all_eq_true];intro a ha;rw [List.all_eq_true];intro b hb;obtain ⟨ha,ka⟩:=List.mem_filter.1 ha;obtain ⟨hb,kb⟩:=List.mem_filter.1 hb;rw [beq_iff_eq] at ka kb;obtain ⟨i,hi,ei⟩:=List.getElem_of_mem ha;obtain ⟨j,hj,ej⟩:=List.getElem_of_mem hb;have gi:l.getD i ([],0,[])=a:=by rw [List.getD_eq_getElem?_getD,List.getElem?_eq_getElem hi,ei];rfl
 have gj:l.getD j ([],0,[])=b:=by rw [List.getD_eq_getElem?_getD,List.getElem?_eq_getElem hj,ej];rfl
 rw [Bool.or_eq_true];rcases Nat.lt_trichotomy i j with hlt | rfl | hlt
 ·right
  have:=hp j hj i hlt (by rw [gj];exact kb) (by rw [gi];exact ka)
  rw [gi,gj] at this;exact apart_comm this
 ·left;rw [← gi,← gj,beq_iff_eq]
 ·right
  have:=hp i hi j hlt (by rw [gi];exact ka) (by rw [gj];exact kb)
  rw [gi,gj] at this;exact this
theorem apart_not {l:List Ar} (h:q0k q03 l=true) {k:Int} {i n:Nat} (hi:i<l.length) (hn:n<i) (ki:(l.getD i ([],0,[])).2.1=k) (kn:(l.getD n ([],0,[])).2.1=k) (hf:q1k (l.getD i ([],0,[])).2.2 (l.getD n ([],0,[])).2.2=false):q34 q03 l k=false:=by
 rw [← Bool.not_eq_true];intro ha;unfold q34 at ha;simp only [Bool.and_eq_true] at ha;have h3:=List.all_eq_true.1 ha.2.2 (l.getD i ([],0,[])) (List.mem_filter.2 ⟨q1l l _ i hi,by rw [beq_iff_eq];exact ki⟩)
 have h4:=List.all_eq_true.1 h3 (l.getD n ([],0,[])) (List.mem_filter.2 ⟨q1l l _ n (by omega),by rw [beq_iff_eq];exact kn⟩)
 rw [hf,Bool.or_false,beq_iff_eq] at h4;obtain ⟨_,h2,_⟩:=q7v.1 h;rw [List.nodup_iff_pairwise_ne,List.pairwise_iff_getElem] at h2;have:=h2 n i (by rw [List.length_map];omega) (by rw [List.length_map];omega) hn
 rw [List.getElem_map,List.getElem_map] at this;refine this ?_;have gi:l.getD i ([],0,[])=l[i]:=by rw [List.getD_eq_getElem?_getD,List.getElem?_eq_getElem hi];rfl
 have gn:l.getD n ([],0,[])=l[n]:=by rw [List.getD_eq_getElem?_getD,List.getElem?_eq_getElem (by omega)];rfl
 rw [← gi,← gn];exact h4.symm
end Zl
open Go.RowKit R Geo.Zn Zl
def cNameG:Con:=.of 26 [ckStr1] [q0u] (λs=>List.length s≤1000000) Lx.q03
def qdm:Con:=.of 20 [q0n] [q0u] (λ_=>True) q1f
abbrev arA (l:List Ar) (k:Nat):Ar:=l.getD k ([],(0:Int),[])
def q73:Con:=.of 11 [q5g] [q0u] FewZ (q0k Lx.q03)
def anRzValid (l:List Ar):List (Nat×Ann) :=
  [annX 0 Nat (λst k=>st.hd { live:=[0],sav:=[],box:=[] } [(3,R.int .i64 k)] [] [] [] none) (λ_ k=>k≤l.length∧(l.take k).all (okA Lx.q03)=true∧((l.take k).map λa=>a.1).Nodup) (λ_ k=>l.length-k),
   annX 2 Nat (λst j=>st.hd { live:=[0,3],sav:=[],box:=[] } [(4,R.int .i64 j)] [] [] [] none) (λst j=>j≤(st.intOf 3).toNat∧(l.take j).any (λa=>a.1==(arA l (st.intOf 3).toNat).1)=false) (λst j=>(st.intOf 3).toNat-j)]
def cRzPut:Con:=.of 42 [q9s,ckStr1] [q9s] (λq=>List.length q.1≤1000000) putL
def anRzPut (l:List Str) (s:Str):List (Nat×Ann) :=
 [annX 0 Nat (λst k=>st.hd { live:=[0,1],sav:=[],box:=[] } [(5,ownAV 27),(6,R.bool (putD s (l.take k))),(7,R.int .i64 k)] [] [(27,strRow (q11 s false (l.take k)))] [] none) (λ_ k=>k≤l.length) (λ_ k=>l.length-k)]
def datS (l:List Str):AV:=.c (.one (.val (.sl kStr) l))
def cRzAt:Con:=.of 22 [q5g,q0n,ckPt,q0n] [q9s] (λq=>FewZ q.1) (λq=>atL q.1 q.2.1 q.2.2.1 q.2.2.2)
def anRzAt (l:List Ar) (n:Int) (p:P2) (m:Int):List (Nat×Ann) :=
 [annX 0 Nat (λst k=>st.hd { live:=[0,1,3,6],sav:=[],box:=[6] } [(9,datS (atL (l.take k) n p m)),(10,R.int .i64 k)] [] [] [] none) (λ_ k=>k≤l.length) (λ_ k=>l.length-k)]
def cRzAll:Con:=.of 7 [q5g,q0n,ckPt] [q9s,q0n] (λq=>FewZ q.1) (λq=>allZ Lx.q03 q.1 q.2.1 q.2.2)
def cRzOne:Con:=.of 9 [q5g,q0n,ckPt] [ckStr1,q0n] (λq=>FewZ q.1) (λq=>oneZ Lx.q03 q.1 q.2.1 q.2.2)
def qei:Con:=.of 14 [q5g,q0n] [q0u] (λq=>FewZ q.1) (λq=>q34 Lx.q03 q.1 q.2)
def anRzApart (l:List Ar) (n:Int):List (Nat×Ann) :=
  [annX 0 Nat (λst k=>st.hd { live:=[0,1],sav:=[],box:=[] } [(5,R.int .i64 k)] [] [] [] none) (λ_ k=>k≤l.length∧∀ i,i<k→q49 l n i i) (λ_ k=>l.length-k),
   annX 2 Nat (λst j=>st.hd { live:=[0,1,5],sav:=[],box:=[] } [(6,R.int .i64 j)] [] [] [] none) (λst j=>j≤(st.intOf 5).toNat∧q49 l n (st.intOf 5).toNat j) (λst j=>(st.intOf 5).toNat-j)]
def qcf:Con:=.of 16 [q5g,q0n,q0n] [q0u] (λq=>FewZ q.1) (λq=>q2e Lx.q03 q.1 q.2.1 q.2.2)
def q5q (l:List Ar) (i:Int) (k j:Nat):Bool:=(l.take j).any λb=>b.2.1==i&&q0i (arA l k).2.2 b.2.2
def anRzNested (l:List Ar) (n i:Int):List (Nat×Ann) :=
  [annX 0 Nat (λst k=>st.hd { live:=[0,1,2],sav:=[],box:=[] } [(7,R.int .i64 k)] [] [] [] none) (λ_ k=>k≤l.length∧(ofK (l.take k) n).all (λa=>(ofK l i).any λb=>q0i a.2.2 b.2.2)=true) (λ_ k=>l.length-k),
   annX 2 Nat (λst j=>st.hd { live:=[0,1,2,7],sav:=[],box:=[] } [(8,R.bool (!((arA l (st.intOf 7).toNat).2.1==n)||q5q l i (st.intOf 7).toNat j)),(9,R.int .i64 j)] [] [] [] none) (λ_ j=>j≤l.length) (λ_ j=>l.length-j)]
end Go.Proofs.YtednmlmllbkhhaaGreatDoor

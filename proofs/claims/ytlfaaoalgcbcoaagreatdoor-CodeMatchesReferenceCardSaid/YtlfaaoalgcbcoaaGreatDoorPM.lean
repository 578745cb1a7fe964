/-
  Several texts in one: IndexAny, LexNext, LexNext2, LexClasses, LexNew, LexLex, SoD, CoD, CoE, R14X.
-/
import Derived.Test.YtlfaaoalgcbcoaaGreatDoorPB
import Derived.Laws.Runes
import Derived.Laws.RangeAny
import Derived.Lib.OthersKept
import Derived.Test.YtlfaaoalgcbcoaaGreatDoorPL
import Derived.WalkSmall
import Derived.Lib.SmallJoins
import Derived.Deep.WholeRow
import Derived.Lib.OwnBridge
open Go.Lib renaming hid→Q0,indexAny→Q8,iterAt_size→Qo,hasPrefix→Qt,below_iterAt→Qu,extract_data→Qv,size_eq→Qz,indexByte→QF,iterAt_heap→QN,indexAny_ge→QP
open Nat renaming le_refl→Q4,add_sub_cancel_left→Qj,lt_or_ge→Qp,zero_add→QI
open Bool renaming and_eq_true→Q5,eq_iff_iff→Qq,false_eq_true→Qs,eq_false_or_eq_true→Qw,false_or→QG,false_and→QU
open List renaming length_drop→Q6,length_append→Q9,take_of_length_le→Qa,drop_eq_nil_of_le→Qe,getElem?_map→Qf,getElem?_eq_getElem→Qg,length_take→Ql,getElem?_eq_none→Qm,foldl_cons→Qy,drop_drop→QD,map→QE,getElem?_take→QJ,isPrefixOf→QR,head?_cons→QS,length_map→QT,drop_zero→QV,replicate→QY
open Int renaming toNat_natCast→Q7,eq_ofNat_of_zero_le→Qk
open Array renaming getElem?_modify→Qb,ext_getElem?→QH,size_append→QK,replicate→QO
open Go.Utf8 renaming decode→Qc,valid→Qn,runeError→QC
open Go.Value renaming int→Qd,oneCell'→QW
open Go.RowKit.Below renaming refl→Qh
open UInt8 renaming toNat_lt→Qi,ofNat→QL
open Go.World renaming cell?_alloc_at→Qr,setRow→Qx,setRow_alloc_new→QA
open Go.Exit renaming noGoto_ret→QM
open Go.Ending renaming returned→QQ
set_option linter.unusedVariables false
namespace Go.Proofs.YtlfaaoalgcbcoaaGreatDoor
open Go.RowKit
set_option maxRecDepth 100000 in
set_option maxHeartbeats 1000000 in
theorem qlm (s:ByteArray) (hs:s.size=2) (w:World) (ha:∀ (j:Nat) (h:j<s.size),(s[j]'h).toNat<128) :
  Calls Tryz.prog 175 #[.string s,.int .i32 65533] w λe w'=>e=.returned (.int .i64 (-1))∧Below w.heap.size w w':=by
 have HS:=Q0 hs;have HA:=Q0 ha;clear ha;have hs2:s.size≤2:=by omega
 clear hs
 go_enter Tryz.func175,Tryz.ntmps175
 go_wp2
 go_loopg [5,6] 2 (λg _ _ wx=>∃ i:Nat,i+g=2∧wx=w.iter s i)
 case atStart=>exact ⟨0,rfl,rfl⟩
 case round =>
  obtain ⟨i,hig,rfl⟩:=hrel;cases gk with
  | zero =>
   have hnx:=λty=>run_next_end (P:=Tryz.prog) w s i ty (by rw [HS.out];omega)
   go_wp2
   go_ret
   exact ⟨rfl,(Qh _ _).alloc (Q4 _) _⟩
  | succ g =>
   have hi:i<s.size:=by rw [HS.out];omega
   have hx128:=HA.out i hi;have hnx:=λty=>run_next_ascii (P:=Tryz.prog) w s i ty hi hx128
   generalize s[i]=x at *
   have hne:((x.toNat:Int)==65533)=false:=by rw [beq_eq_false_iff_ne];omega
   go_wp2
   go_roundg g
   case measure=>omega
   case rel=>exact ⟨i+1,by omega,rfl⟩
set_option maxRecDepth 100000 in
set_option maxHeartbeats 1000000 in
theorem qmy (s:ByteArray) (hs:s.size=2) (r:Int) (w:World) (ha:∀ (j:Nat) (h:j<s.size),(s[j]'h).toNat<128) (h1:128≤r) (h2:Qn r=true) (h3:r≠65533) :
  Calls Tryz.prog 175 #[.string s,.int .i32 r] w λe w'=>e=.returned (.int .i64 (-1))∧Below w.heap.size w w':=by
 have HS:=Q0 hs;have HA:=Q0 ha;clear ha;have hs2:s.size≤2:=by omega
 have hs3:2≤s.size:=by omega
 clear hs;obtain ⟨e1,e2,e3⟩:=encode_facts r h2 h1;have hlt0:¬ r<128:=by omega
 have hnr:(r==65533)=false:=by rw [beq_eq_false_iff_ne];exact h3
 have hvr:Lib.validRune r=true:=by
  have e:=validRune_eq r;rw [h2] at e;exact e.symm
 clear h2
 go_enter Tryz.func175,Tryz.ntmps175
 go_wp2_with (first | (go_at_call 201;refine (Tryz.utf8_ValidRune _ _).mono ?_;rintro e w' ⟨rfl,rfl⟩))
 go_step3
 go_wp2
 generalize Utf8.encode r=rs at *
 obtain ⟨i,hi⟩:∃ i,rs.size=i+1:=⟨rs.size-1,by omega⟩
 have ei:(rs.size:Int)-1=(i:Int):=by omega
 rw [ei];clear ei;have hir:i<rs.size:=by omega
 have e4:128≤(rs[i]'hir).toNat:=by
  have e5:rs.size-1=i:=by omega
  simp only [e5] at e3;exact e3 hir
 clear e3;have hi1:1≤i:=by omega
 have HI:=Q0 hi;clear hi;refine wp_loop_rounds 1 ?_;rw [rounds_succ];by_cases h2:i<s.size
 ·have hne:((s[i].toNat:Int) != (rs[i].toNat:Int))=true:=by
   have a2:=HA.out i h2;rw [bne_iff_ne];omega
  have hz:QF (List.take (s.size-(i+1)) (List.drop (i+1) s.data.toList)) rs[i]=-1:=by
   rw [Qe (by rw [← Qz];omega),List.take_nil]
   rfl
  go_wp2
  go_step3
  go_wp2
  go_quiet (fail)
  go_wp2
  go_quiet ((go_at_call 157;exact qn2 (Tryz.strings_IndexByte _ _ _)))
  go_wp2
  repeat (first | rw [QM] | simp only [Exit.inBlock,Exit.then])
  go_ret
  exact ⟨rfl,belN (Qh _ _) _⟩
 ·go_wp2
  repeat (first | rw [QM] | simp only [Exit.inBlock])
  go_ret
  exact ⟨rfl,Qh _ _⟩
theorem qn0 (s:ByteArray) (hs:s.size=2) (r:Int) (w:World) (ha:∀ (j:Nat) (h:j<s.size),(s[j]'h).toNat<128) (h:r=65533∨(128≤r∧Qn r=true)) :
  Calls Tryz.prog 175 #[.string s,.int .i32 r] w λe w'=>e=.returned (.int .i64 (-1))∧Below w.heap.size w w':=by
 by_cases h3:r=65533
 ·subst h3;exact qlm s hs w ha
 ·rcases h with h | ⟨h1,h2⟩
  ·exact absurd h h3
  ·exact qmy s hs r w ha h1 h2 h3
theorem decode_high (s:ByteArray) (i:Nat) (hi:i<s.size) (h:¬ (s[i]'hi).toNat<128) :
  1≤(Qc s i).2∧i+(Qc s i).2≤s.size∧((Qc s i).1=65533∨(128≤(Qc s i).1∧Qn (Qc s i).1=true)) ∧
   ∀ j (hj:j<s.size),i≤j→j<i+(Qc s i).2→¬ (s[j]'hj).toNat<128:=by
 have e:∀ k (hk:i+k<s.size),(s.get! (i+k)).toNat=(s[i+k]'hk).toNat:=λk hk=>by
  have:s.get! (i+k)=s[i+k]'hk:=by simp [ByteArray.get!,getElem!_pos,hk];rfl
  rw [this]
 have e0:(s.get! (i+0)).toNat=(s[i]'hi).toNat:=e 0 hi;have hb:∀ k,k<4→(decide (i+k<s.size)&&(s.get! (i+k)).toNat / 64==2)=true→∀ hj:i+k<s.size,¬ (s[i+k]'hj).toNat<128:=λk _ hc hj=>by
  rw [Q5] at hc;have h2:(s.get! (i+k)).toNat / 64=2:=by simpa using hc.2
  rw [e k hj] at h2;omega
 have hl:∀ k,(decide (i+k<s.size)&&(s.get! (i+k)).toNat / 64==2)=true→i+k<s.size:=λk hc=>by
  rw [Q5] at hc
  simpa using hc.1
 have one:∀ j (hj:j<s.size),i≤j→j<i+1→¬ (s[j]'hj).toNat<128:=λj hj h1 h2=>by
  obtain rfl:j=i:=by omega
  exact h
 have l0:(s[i]'hi).toNat<256:=Qi _;have l:∀ k,(s.get! k).toNat<256:=λk=>Qi _
 have l1:=l (i+1);have l2:=l (i+2);have l3:=l (i+3);unfold Qc;simp only [e0];rw [if_neg h];have bad:1≤1∧i+1≤s.size∧(QC=65533∨(128≤QC∧Qn (QC:Nat)=true))∧∀ j (hj:j<s.size),i≤j→j<i+1→¬ (s[j]'hj).toNat<128 :=
  ⟨by omega,by omega,.inl rfl,one⟩
 split
 ·rename_i h2
  rw [Q5] at h2;have c1:=h2.2;split
  ·refine ⟨by simp,by have:=hl 1 c1;simp;omega,.inr ⟨by simp only [];omega,?_⟩,?_⟩
   ·simp only [Qn]
    simp;omega
   ·intro j hj h3 h4
    by_cases hj0:j=i
    ·subst hj0;exact h
    ·obtain rfl:j=i+1:=by simp only [] at h4;omega
     exact hb 1 (by omega) c1 hj
  ·exact bad
 ·split
  ·rename_i h2
   rw [Q5,Q5] at h2;have c1:=h2.1.2;have c2:=h2.2;split
   ·rename_i h5
    rw [Q5] at h5;have h6:2048≤_:=of_decide_eq_true h5.1;refine ⟨by simp,by have:=hl 2 c2;simp;omega,.inr ⟨by simp only [];omega,by simpa using h5.2⟩,?_⟩
    intro j hj h3 h4;by_cases hj0:j=i
    ·subst hj0;exact h
    ·by_cases hj1:j=i+1
     ·subst hj1;exact hb 1 (by omega) c1 hj
     ·obtain rfl:j=i+2:=by simp only [] at h4;omega
      exact hb 2 (by omega) c2 hj
   ·exact bad
  ·split
   ·rename_i h2
    rw [Q5,Q5,Q5] at h2;have c1:=h2.1.1.2;have c2:=h2.1.2;have c3:=h2.2;split
    ·rename_i h5
     rw [Q5] at h5;have h6:65536≤_:=of_decide_eq_true h5.1;refine ⟨by simp,by have:=hl 3 c3;simp;omega,.inr ⟨by simp only [];omega,by simpa using h5.2⟩,?_⟩
     intro j hj h3 h4;by_cases hj0:j=i
     ·subst hj0;exact h
     ·by_cases hj1:j=i+1
      ·subst hj1;exact hb 1 (by omega) c1 hj
      ·by_cases hj2:j=i+2
       ·subst hj2;exact hb 2 (by omega) c2 hj
       ·obtain rfl:j=i+3:=by simp only [] at h4;omega
        exact hb 3 (by omega) c3 hj
    ·exact bad
   ·exact bad
set_option maxRecDepth 100000 in
set_option maxHeartbeats 1000000 in
theorem qn1 (s chars:ByteArray) (hc:chars.size=2) (w:World) (h8:s.size≤8) (hac:∀ (j:Nat) (h:j<chars.size),(chars[j]'h).toNat<128) :
  Calls Tryz.prog 159 #[.string s,.string chars] w λe w'=>e=.returned (.int .i64 (Q8 s.data.toList chars.data.toList))∧Below w.heap.size w w':=by
 have hemp:chars.toList.isEmpty=false:=by
  rw [Lib.toList_data];cases h:chars.data.toList with
  | nil=>have:=Qz chars;rw [h,List.length_nil] at this;omega
  | cons _ _=>rfl
 have hcon:∀ x:UInt8,¬ x.toNat<128→chars.data.toList.contains x=false:=λx hx=>by
  rw [List.contains_eq_any_beq,List.any_eq_false];intro y hy;obtain ⟨j,hj,rfl⟩:=List.mem_iff_getElem.1 hy;have hj':j<chars.size:=by rw [q0r];exact hj
  have h1:=hac j hj';have h2:=qcj chars j hj';rw [Qg hj] at h2;injection h2 with h2;intro he;have he':x=chars.data.toList[j]:=by simpa using he
  rw [he',h2] at hx;exact hx h1
 have HCON:=Q0 hcon;clear hcon;have HAC:=Q0 hac;clear hac;have hn1:((chars.size:Int)==1)=false:=beq_eq_false_iff_ne.2 (by omega)
 have HC:=Q0 hc;clear hc;have h8z:decide ((8:Int)<(s.size:Int))=false:=decide_eq_false (by omega)
 have hg0:(w.iter s 0).heap[w.heap.size]? = some (.stringIter s 0):=World.iter_heap w s 0;have hb0:Below w.heap.size w (w.iter s 0):=(Qh _ _).alloc (Q4 _) _;have hz0:w.heap.size<(w.iter s 0).heap.size:=by show w.heap.size<(w.heap.push _).size;simp
 go_enter Tryz.func159,Tryz.ntmps159
 go_wp2_with (go_at_call 176;refine (Tryz.strings_shouldUseASCIISet _ _).mono ?_;rintro e w' ⟨rfl,rfl⟩;rw [h8z])
 go_loopg [9,10] s.size (λg _ _ wx=>∃ i:Nat,i+g=s.size∧wx.heap[w'.heap.size]? = some (.stringIter s i)∧Below w'.heap.size w' wx∧w'.heap.size<wx.heap.size∧Lib.NoAny s.data.toList chars.data.toList i)
 case atStart=>exact ⟨0,by omega,hg0,hb0,hz0,Lib.NoAny.zero _ _⟩
 case round =>
  obtain ⟨i,hig,hit,hbx,hlt,hno⟩:=hrel;clear hg0 hb0 hz0;have HN:=Q0 hno;clear hno;have HB:=Q0 hbx;clear hbx;by_cases hi:i<s.size
  ·have hnx:=λty=>Lib.run_next_any_at (P:=Tryz.prog) wr w'.heap.size s i ty hit hi
   have hdle:=decode_le s i;have hxl:s.data.toList[i]? = some s[i]:=qcj s i hi;by_cases ha:s[i].toNat<128
   ·rw [decode_ascii s i hi ha] at hnx hdle
    simp only [] at hnx;have Hx:=Q0 hxl;clear hxl;have HIT:=Q0 hit;clear hit;generalize s[i]=x at *
    have hcn:=Lib.contains_iff_indexByte chars.data.toList x;have hback:((x.toNat:Int)).toNat.toUInt8=x:=by simp
    cases hin:chars.data.toList.contains x
    ·rw [hin] at hcn
     have hlt2:¬ ((0:Int)≤QF chars.data.toList x):=of_decide_eq_false hcn.symm;clear hcn;have HIN:=Q0 hin;clear hin
     go_wp2_with (go_at_call 175;refine (Tryz.strings_IndexRune_ascii _ _ _ (by omega) (by omega)).mono ?_;rintro e w' ⟨rfl,hw⟩;rw [hw,hback])
     go_roundg (s.size-(i+1))
     case measure=>omega
     case rel=>exact ⟨i+1,by omega,QN _ _ _ _ _ HIT.out,Qu HB.out (Q4 _) _ _,by rw [Qo];exact hlt,HN.out.succ Hx.out HIN.out⟩
    ·rw [hin] at hcn
     have hge:(0:Int)≤QF chars.data.toList x:=of_decide_eq_true hcn.symm;clear hcn;have HIN:=Q0 hin;clear hin
     go_wp2_with (go_at_call 175;refine (Tryz.strings_IndexRune_ascii _ _ _ (by omega) (by omega)).mono ?_;rintro e w' ⟨rfl,hw⟩;rw [hw,hback])
     go_ret
     exact ⟨by rw [Lib.indexAny_hit HN.out Hx.out HIN.out];rfl,Qu HB.out (Q4 _) _ _⟩
   ·obtain ⟨d1,d2,d3,d4⟩:=decode_high s i hi ha
    have hall:Lib.NoAny s.data.toList chars.data.toList (i+(Qc s i).2):=by
     intro j b hj hb;by_cases hji:j<i
     ·exact HN.out j b hji hb
     ·have hjs:j<s.size:=by
       rw [Qz];rcases Qp j s.data.toList.length with hjl | hjl
       ·exact hjl
       ·rw [Qm hjl] at hb;cases hb
      rw [qcj s j hjs] at hb;injection hb with hb;rw [← hb];exact HCON.out _ (d4 j hjs (by omega) hj)
    have HALL:=Q0 hall;clear hall d4 ha hxl;have HD3:=Q0 d3;clear d3;have HIT:=Q0 hit;clear hit;generalize Qc s i=dc at *
    obtain ⟨r,n⟩:=dc;simp only [] at hnx d1 d2 hdle;have hr3:(r:Int)=65533∨(128≤(r:Int)∧Qn r=true):=by
     rcases HD3.out with h | h
     ·left;simp only [] at h;omega
     ·right;simp only [] at h;exact ⟨by omega,h.2⟩
    have HR3:=Q0 hr3;clear hr3
    go_wp2_with fail
    refine (qn0 chars HC.out r _ HAC.out HR3.out).mono ?_;rintro e w2 ⟨rfl,hb2⟩;have HB2:=Q0 hb2;clear hb2
    go_wp2
    go_roundg (s.size-(i+n))
    case measure=>omega
    case rel =>
     have hz2:=HB2.out.size;rw [Qo] at hz2;refine ⟨i+n,by omega,?_,?_,by omega,HALL.out⟩
     ·rw [HB2.out.block _ (by rw [Qo];exact hlt)]
      exact QN _ _ _ _ _ HIT.out
     ·exact (Qu HB.out (Q4 _) _ _).trans (HB2.out.mono (by rw [Qo];omega))
  ·have hnx:=λty=>Lib.run_next_end_at (P:=Tryz.prog) wr w'.heap.size s i ty hit hi
   have hii:i=s.data.toList.length:=by rw [← Qz];omega
   have HI:=Q0 hii;clear hii;have HIT:=Q0 hit;clear hit
   go_wp2
   go_ret
   exact ⟨by rw [Lib.indexAny_none (by rw [← HI.out];exact HN.out)];rfl,HB.out⟩
theorem zero_ascii:∀ w,(zeroValue 219).run Tryz.prog w=.ok (.agg (QO 256 (.bool false))) w:=λ_=>by kernel_rfl
theorem qn3 (s:ByteArray) (w:World) (hs:s.size<4294967281) :
  Calls Tryz.prog 159 #[.string s,.string { data:=#[34,10] }] w λe w'=>e=.returned (.int .i64 (Q8 s.data.toList [34,10]))∧Below w.heap.size w w':=by
 have ha:∀ (j:Nat) (h:j<(⟨#[34,10]⟩:ByteArray).size),((⟨#[34,10]⟩:ByteArray)[j]'h).toNat<128:=by
  intro j h;have h2:(⟨#[34,10]⟩:ByteArray).size=2:=rfl;rw [h2] at h
  match j,h with
  | 0,_=>show (34:UInt8).toNat<128;decide
  | 1,_=>show (10:UInt8).toNat<128;decide
 by_cases h8:s.size≤8
 ·exact qn1 s ⟨#[34,10]⟩ rfl w h8 ha
 ·refine (Tryz.strings_IndexAny_long zero_ascii s ⟨#[34,10]⟩ w (Q4 2) (by omega) hs (by show 2<4294967281;omega) ?_).mono ?_
  ·intro j b hb
   have h2:j<2:=by
    rcases Qp j 2 with h | h
    ·exact h
    ·rw [Qm (by simpa using h)] at hb;cases hb
   have hb':([34,10]:List UInt8)[j]? = some b:=hb
   match j,h2 with
   | 0,_=>injection hb' with hb';subst hb';decide
   | 1,_=>injection hb' with hb';subst hb';decide
  ·rintro e w' ⟨rfl,rfl⟩
   exact ⟨rfl,((Qh _ _).alloc (Q4 _) _).alloc (by simp) _⟩
end Go.Proofs.YtlfaaoalgcbcoaaGreatDoor
namespace Go.Proofs.YtlfaaoalgcbcoaaGreatDoor
open Go.RowKit
attribute [local go_sem] q28 q1o q1v
namespace Lx
theorem q4w (P:UInt8→Bool) (h:∀ c:Fin 256,P (QL c.val)=true) (c:UInt8):P c=true:=by
 have h1:=h ⟨c.toNat,Qi c⟩
 simpa using h1
theorem q69 (c:UInt8):q1h c=(cls c==3):=by
 simpa using q4w (λc=>q1h c==(cls c==3)) (by decide +kernel) c
theorem q62 (c:UInt8):isDigit c=(cls c==4):=by
 simpa using q4w (λc=>isDigit c==(cls c==4)) (by decide +kernel) c
theorem qbc (c:UInt8):(c==34)=(cls c==6):=by
 simpa using q4w (λc=>(c==34)==(cls c==6)) (by decide +kernel) c
theorem qex (c:UInt8):(c==33)=(cls c==7):=by
 simpa using q4w (λc=>(c==33)==(cls c==7)) (by decide +kernel) c
theorem qd9 (c:UInt8):(c==60||c==62)=(cls c==8):=by
 have h:=q4w (λc=>(c==60||c==62)==(cls c==8)) (by decide +kernel) c
 rwa [beq_iff_eq] at h
theorem cls_sym (c:UInt8):isSym c=(cls c==9):=by
 simpa using q4w (λc=>isSym c==(cls c==9)) (by decide +kernel) c
theorem cls_word (c:UInt8):isWord c=(cls c==3||cls c==4||cls c==5):=by
 have h:=q4w (λc=>isWord c==(cls c==3||cls c==4||cls c==5)) (by decide +kernel) c
 rwa [beq_iff_eq] at h
theorem scan_letter (c:UInt8) (r:List UInt8) (h:cls c=3) :
  scan (c::r)=if 24<span isWord (c::r) then bad 2 else ⟨0,1,0,(c::r).take (span isWord (c::r)),span isWord (c::r)⟩:=by
 have h1:q1h c=true:=by rw [q69,h];rfl
 have h2:isWord c=true:=by rw [cls_word,h];rfl
 rw [q5f h2,scan,if_pos h1]
theorem scan_digit (c:UInt8) (r:List UInt8) (h:cls c=4) :
  scan (c::r)=if 13<span isDigit (c::r)||q2a ((c::r).drop (span isDigit (c::r)))==3||q2a ((c::r).drop (span isDigit (c::r)))==5 then bad 4
   else ⟨0,2,qes ((c::r).take (span isDigit (c::r))),(c::r).take (span isDigit (c::r)),span isDigit (c::r)⟩:=by
 have h1:q1h c=false:=by rw [q69,h];rfl
 have h2:isDigit c=true:=by rw [q62,h];rfl
 rw [q5f h2,scan,if_neg (by rw [h1];decide),if_pos h2]
theorem scan_quote (c:UInt8) (r:List UInt8) (h:cls c=6) :
  scan (c::r)=if (r.drop (span q3q r)).head? == some 34 then (if 400<span q3q r then bad 2 else ⟨0,3,0,r.take (span q3q r),span q3q r+2⟩) else bad 6:=by
 have h1:q1h c=false:=by rw [q69,h];rfl
 have h2:isDigit c=false:=by rw [q62,h];rfl
 have h3:(c==34)=true:=by rw [qbc,h];rfl
 rw [scan,if_neg (by rw [h1];decide),if_neg (by rw [h2];decide),if_pos h3]
theorem scan_mark (c:UInt8) (r:List UInt8) (h:cls c=7):scan (c::r)=if r.head? == some 61 then ⟨0,4,0,[c,61],2⟩ else bad 3:=by
 have h1:q1h c=false:=by rw [q69,h];rfl
 have h2:isDigit c=false:=by rw [q62,h];rfl
 have h3:(c==34)=false:=by rw [qbc,h];rfl
 have h4:(c==33)=true:=by rw [qex,h];rfl
 have h5:(c==60||c==62)=false:=by rw [qd9,h];rfl
 have h6:isSym c=false:=by rw [cls_sym,h];rfl
 rw [scan,if_neg (by rw [h1];decide),if_neg (by rw [h2];decide),if_neg (by rw [h3];decide)]
 simp only [h4,h5,h6,Bool.true_or,Bool.true_and,Bool.or_self,Qs,if_false]
theorem scan_angle (c:UInt8) (r:List UInt8) (h:cls c=8):scan (c::r)=if r.head? == some 61 then ⟨0,4,0,[c,61],2⟩ else ⟨0,4,0,[c],1⟩:=by
 have h1:q1h c=false:=by rw [q69,h];rfl
 have h2:isDigit c=false:=by rw [q62,h];rfl
 have h3:(c==34)=false:=by rw [qbc,h];rfl
 have h4:(c==33)=false:=by rw [qex,h];rfl
 have h5:(c==60||c==62)=true:=by rw [qd9,h];rfl
 rw [scan,if_neg (by rw [h1];decide),if_neg (by rw [h2];decide),if_neg (by rw [h3];decide)]
 simp only [h4,h5,QG,Bool.true_or,Bool.true_and,if_true]
theorem scan_sym (c:UInt8) (r:List UInt8) (h:cls c=9):scan (c::r)=⟨0,4,0,[c],1⟩:=by
 have h1:q1h c=false:=by rw [q69,h];rfl
 have h2:isDigit c=false:=by rw [q62,h];rfl
 have h3:(c==34)=false:=by rw [qbc,h];rfl
 have h4:(c==33)=false:=by rw [qex,h];rfl
 have h5:(c==60||c==62)=false:=by rw [qd9,h];rfl
 have h6:isSym c=true:=by rw [cls_sym,h];rfl
 rw [scan,if_neg (by rw [h1];decide),if_neg (by rw [h2];decide),if_neg (by rw [h3];decide)]
 simp only [h4,h5,h6,QG,QU,Qs,if_false,if_true]
theorem scan_other (c:UInt8) (r:List UInt8) (h3:cls c≠3) (h4:cls c≠4) (h6:cls c≠6) (h7:cls c≠7) (h8:cls c≠8) (h9:cls c≠9):scan (c::r)=bad 3:=by
 have e1:q1h c=false:=by rw [q69];simpa using h3
 have e2:isDigit c=false:=by rw [q62];simpa using h4
 have e3:(c==34)=false:=by rw [qbc];simpa using h6
 have e4:(c==33)=false:=by rw [qex];simpa using h7
 have e5:(c==60||c==62)=false:=by rw [qd9];simpa using h8
 have e6:isSym c=false:=by rw [cls_sym];simpa using h9
 rw [scan,if_neg (by rw [e1];decide),if_neg (by rw [e2];decide),if_neg (by rw [e3];decide)]
 simp only [e4,e5,e6,QG,QU,Qs,if_false]
theorem qmt (l:List UInt8) (h:∀ c∈l,isDigit c=true):∀ a,Lib.decFrom a l=some (l.foldl (λa c=>10*a+(c.toNat-48)) a):=by
 induction l with
 | nil=>intro a;rfl
 | cons c r ih =>
  intro a;have hc:isDigit c=true:=h c (by simp)
  have hd:Lib.digitVal c=some (c.toNat-48):=by
   unfold isDigit at hc;rw [Q5] at hc;have h1:48≤c:=of_decide_eq_true hc.1;have h2:c≤57:=of_decide_eq_true hc.2;have h1':48≤c.toNat:=h1;have h2':c.toNat≤57:=h2;unfold Lib.digitVal;rw [if_pos ⟨h1',h2'⟩]
  unfold Lib.decFrom;rw [hd];simp only [Qy];rw [ih (λc hc=>h c (by simp [hc])),Nat.mul_comm]
theorem atoi_digits (l:List UInt8) (h:∀ c∈l,isDigit c=true) (hl:l≠[]):Lib.atoi l=some ((qes l:Nat):Int):=by
 cases l with
 | nil=>exact absurd rfl hl
 | cons c r =>
  have hc:isDigit c=true:=h c (by simp)
  have h45:(c==45)=false:=by
   by_cases he:c=45
   ·subst he;exact absurd hc (by decide)
   ·simpa using he
  have h43:(c==43)=false:=by
   by_cases he:c=43
   ·subst he;exact absurd hc (by decide)
   ·simpa using he
  simp only [Lib.atoi];rw [if_neg (by rw [h45];decide),if_neg (by rw [h43];decide)]
  unfold Lib.decNat;rw [if_neg (by simp),qmt _ h]
  rfl
theorem take_span (p:UInt8→Bool) (l:List UInt8):∀ c∈l.take (span p l),p c=true:=by
 induction l with
 | nil=>intro c hc;simp at hc
 | cons d r ih =>
  intro c hc;cases hd:p d
  ·rw [q8t hd] at hc;simp at hc
  ·rw [q5f hd,List.take_succ_cons] at hc
   rcases List.mem_cons.1 hc with rfl | hc
   ·exact hd
   ·exact ih c hc
theorem decVal_lt (l:List UInt8) (h:∀ c∈l,isDigit c=true):qes l<10 ^ l.length:=by
 have H:∀ (l:List UInt8),(∀ c∈l,isDigit c=true)→∀ a,l.foldl (λa c=>10*a+(c.toNat-48)) a<(a+1)*10 ^ l.length:=by
  intro l
  induction l with
  | nil=>intro _ a;simp
  | cons c r ih =>
   intro h a;have hc:isDigit c=true:=h c (by simp)
   have h2':c.toNat≤57:=by
    unfold isDigit at hc;rw [Q5] at hc;exact of_decide_eq_true hc.2
   simp only [Qy,List.length_cons];have:=ih (λc hc=>h c (by simp [hc])) (10*a+(c.toNat-48))
   calc _<(10*a+(c.toNat-48)+1)*10 ^ r.length:=this
    _≤((a+1)*10)*10 ^ r.length:=Nat.mul_le_mul_right _ (by omega)
    _=(a+1)*10 ^ (r.length+1):=by rw [Nat.pow_succ,Nat.mul_assoc,Nat.mul_comm 10]
 have:=H l h 0
 simpa [qes] using this
theorem indexAny_in (l:List UInt8):(Q8 l [34,10]<0→(l.drop (span q3q l)).head? = none) ∧
  (0≤Q8 l [34,10]→span q3q l=(Q8 l [34,10]).toNat∧span q3q l<l.length∧(l[span q3q l]? = some 34∨l[span q3q l]? = some 10)):=by
 induction l with
 | nil=>exact ⟨λ_=>rfl,λh=>absurd h (by decide)⟩
 | cons c r ih =>
  have hge:=QP [34,10] r;unfold Q8;cases hc:q3q c
  ·have hcon:([34,10]:List UInt8).contains c=true:=by
    have h1:∀ c:UInt8,([34,10]:List UInt8).contains c=!q3q c:=λc=>by
     have h:=q4w (λc=>([34,10]:List UInt8).contains c==!q3q c) (by decide +kernel) c
     rwa [beq_iff_eq] at h
    rw [h1,hc];rfl
   rw [if_pos hcon,q8t hc];refine ⟨λh=>absurd h (by decide),λ_=>⟨rfl,by simp,?_⟩⟩
   have:c=34∨c=10:=by simpa using hcon
   rcases this with rfl | rfl
   ·exact .inl rfl
   ·exact .inr rfl
  ·have hcon:([34,10]:List UInt8).contains c=false:=by
    have h1:∀ c:UInt8,([34,10]:List UInt8).contains c=!q3q c:=λc=>by
     have h:=q4w (λc=>([34,10]:List UInt8).contains c==!q3q c) (by decide +kernel) c
     rwa [beq_iff_eq] at h
    rw [h1,hc];rfl
   rw [if_neg (by rw [hcon];decide),q5f hc]
   by_cases hr:(Q8 r [34,10]==-1)=true
   ·rw [if_pos hr]
    have hr':Q8 r [34,10]=-1:=by simpa using hr
    exact ⟨λ_=>ih.1 (by omega),λh=>absurd h (by decide)⟩
   ·rw [if_neg hr]
    have hr':Q8 r [34,10]≠-1:=by simpa using hr
    refine ⟨λh=>by omega,λ_=>?_⟩
    obtain ⟨h1,h2,h3⟩:=ih.2 (by omega)
    refine ⟨by omega,by simpa using h2,by simpa using h3⟩
def Sc.out (r:Sc) (off:Nat):Value:=.agg #[.int .i64 r.kind,.int .i64 (if r.err=0 then (off:Int) else 0),.int .i64 r.n,.string (bs r.text)]
def Sc.fin (r:Sc) (off:Nat):Int:=if r.err=0 then (off+r.width:Nat) else 0
end Lx
theorem among_word:among [3,4,5]=Lx.isWord:=by
 funext c
 rw [Lx.cls_word];have h:∀ n:Nat,([3,4,5]:List Int).contains (n:Int)=(n==3||n==4||n==5):=by
  intro n;rw [Qq];simp;omega
 exact h _
theorem among_digit:among [4]=Lx.isDigit:=by
 funext c
 rw [Lx.q62];have h:∀ n:Nat,([4]:List Int).contains (n:Int)=(n==4):=by
  intro n;rw [Qq];simp;omega
 exact h _
theorem qnc (w:World) (bk:Nat) (hbk:bk=w.heap.size) (x y z:Int) (t:TypeId):∀ j,j<[x,y,z].length→(w.alloc (.cells #[.int .i64 x,.int .i64 y,.int .i64 z] t)).cell? ⟨bk,0+j,none⟩=some (.int .i64 ([x,y,z].getD j 0)):=by
 intro j hj;subst hbk
 match j,hj with
 | 0,_=>simp [Qr]
 | 1,_=>simp [Qr]
 | 2,_=>simp [Qr]
set_option maxRecDepth 100000 in
set_option maxHeartbeats 1000000 in
theorem next_letter (b:Nat) (s:ByteArray) (i:Nat) (w:World) (hs:s.size≤20000) (hi:i<s.size) (hb:b<w.heap.size) (h:Scan w b s) (hc:Lx.cls s[i]=3) :
  Calls Tryz.prog 132 #[.pointer (some ⟨b,0,none⟩),.int .i64 i] w λe w' =>
   e=.returned (.tuple #[(Lx.scan (s.data.toList.drop i)).out i,.int .i64 ((Lx.scan (s.data.toList.drop i)).fin i),.int .i64 (Lx.scan (s.data.toList.drop i)).err])∧Below w.heap.size w w':=by
 have hsc:=Lx.scan_letter s[i] (s.data.toList.drop (i+1)) hc;have hd:=q3n s i hi;rw [← hd] at hsc;have HSC:=Q0 hsc;clear hsc;have hle:=qir Lx.isWord (s.data.toList.drop i);rw [Q6,← q0r] at hle;have hc0:Lx.q2a (s.data.toList.drop i)=3:=by rw [hd];exact hc
 have HC:=Q0 hc0;clear hc hc0 hd;have h0:=h.text
 go_enter Tryz.func132,Tryz.ntmps132
 go_wp2_with fail
 refine (q6f b s i _ (by omega) (by omega) (by exact h.alloc hb _)).mono ?_
 rintro e w' ⟨rfl,m1,rfl⟩;rw [Q7,HC.out]
 go_wp2_with fail
 refine (qdd b s i _ 3 3 [3,4,5] _ (by omega) (by omega) (by exact ((h.alloc hb _).drewN m1).alloc (by simp;omega) _) rfl (by omega) (by omega) (by exact qnc _ _ (by simp) 3 4 5 _)).mono ?_
 rintro e w' ⟨rfl,m2,rfl⟩;rw [among_word];generalize Lx.span Lx.isWord (s.data.toList.drop i)=m at *
 by_cases hm:24<m
 ·go_wp2
  refine bodyPost_ret (v:=.tuple #[.agg #[.int .i64 0,.int .i64 0,.int .i64 0,.string { data:=#[] }],.int .i64 0,.int .i64 2]) (by simp [results,Tryz.results132,go_sem]) rfl ⟨?_,?_⟩
  ·rw [HSC.out,if_pos hm];rfl
  ·exact q2f (q0g (q0g (q06 w) _) _) _
 ·have hx:=q3h s i (i+m)
  rw [Qj] at hx
  go_wp2
  refine bodyPost_ret (v:=.tuple #[.agg #[.int .i64 1,.int .i64 i,.int .i64 0,.string (bs ((s.data.toList.drop i).take m))],.int .i64 (i+m:Nat),.int .i64 0]) ?_ rfl ⟨?_,?_⟩
  ·simp [results,Tryz.results132,go_sem]
  ·rw [HSC.out,if_neg hm];rfl
  ·exact q2f (q0g (q0g (q06 w) _) _) _
theorem atoi_any (l:List UInt8) (w:World) (hl:l.length≤18) {n:Int} (h:Lib.atoi l=some n) :
  Calls Tryz.prog 158 #[.string (bs l)] w λe w'=>e=.returned (.tuple #[.int .i64 n,.nilIface])∧Below w.heap.size w w':=by
 refine (Tryz.strconv_Atoi (bs l) n (by rw [qer];exact hl) (by rw [q2r];exact h) w).mono ?_
 rintro e w' ⟨rfl,t,rfl⟩;exact ⟨rfl,Joins.below_bytesWorld _ w _ t (Q4 _)⟩
set_option maxRecDepth 100000 in
set_option maxHeartbeats 2000000 in
theorem next_digit (b:Nat) (s:ByteArray) (i:Nat) (w:World) (hs:s.size≤20000) (hi:i<s.size) (hb:b<w.heap.size) (h:Scan w b s) (hc:Lx.cls s[i]=4) :
  Calls Tryz.prog 132 #[.pointer (some ⟨b,0,none⟩),.int .i64 i] w λe w' =>
   e=.returned (.tuple #[(Lx.scan (s.data.toList.drop i)).out i,.int .i64 ((Lx.scan (s.data.toList.drop i)).fin i),.int .i64 (Lx.scan (s.data.toList.drop i)).err])∧Below w.heap.size w w':=by
 have hsc:=Lx.scan_digit s[i] (s.data.toList.drop (i+1)) hc;have hd:=q3n s i hi;have hp:Lx.isDigit s[i]=true:=by rw [Lx.q62,hc];rfl
 have hpos:1≤Lx.span Lx.isDigit (s.data.toList.drop i):=by rw [hd,q5f hp];omega
 rw [← hd] at hsc;rw [QD] at hsc;have HSC:=Q0 hsc;clear hsc;have hle:=qir Lx.isDigit (s.data.toList.drop i);rw [Q6,← q0r] at hle;have hc0:Lx.q2a (s.data.toList.drop i)=4:=by rw [hd];exact hc
 have HC:=Q0 hc0;have hdig:=Lx.take_span Lx.isDigit (s.data.toList.drop i);have HDIG:=Q0 hdig;clear hc hc0 hd hdig hp;have h0:=h.text
 go_enter Tryz.func132,Tryz.ntmps132
 go_wp2_with fail
 refine (q6f b s i _ (by omega) (by omega) (by exact h.alloc hb _)).mono ?_
 rintro e w' ⟨rfl,m1,rfl⟩;rw [Q7,HC.out]
 go_wp2_with fail
 refine (qdd b s i _ 1 1 [4] _ (by omega) (by omega) (by exact ((h.alloc hb _).alloc (by simp;omega) _).drewN m1) rfl (by omega) (by omega) (by exact qgu _ _ (by simp) 4 _)).mono ?_
 rintro e w' ⟨rfl,m2,rfl⟩;rw [among_digit];generalize Lx.span Lx.isDigit (s.data.toList.drop i)=m at *
 go_wp2_with fail
 refine (q6f b s (i+m) _ (by omega) (by omega) (by exact ((h.alloc hb _).alloc (by simp;omega) _).drewN _)).mono ?_
 rintro e w' ⟨rfl,m3,rfl⟩;rw [show ((i:Int)+(m:Int)).toNat=i+m from by omega]
 generalize Lx.q2a (s.data.toList.drop (i+m))=c2 at *
 by_cases hm:13<m∨c2=3∨c2=5
 ·have hbad:(13<(m:Int))∨((c2:Int)==3)=true∨((c2:Int)==5)=true:=by
   rcases hm with hm | rfl | rfl
   ·left;omega
   ·right;left;rfl
   ·right;right;rfl
  have hsb:Lx.scan (s.data.toList.drop i)=Lx.bad 4:=by
   rw [HSC.out,if_pos];rcases hm with hm | rfl | rfl
   ·simp [hm]
   ·simp
   ·simp
  have HSB:=Q0 hsb;clear hsb hm HSC;have fin:∀ X:World,Below w.heap.size w X→(QQ (.tuple #[.agg #[.int .i64 0,.int .i64 0,.int .i64 0,.string { data:=#[] }],.int .i64 0,.int .i64 4])=.returned (.tuple #[(Lx.scan (s.data.toList.drop i)).out i,.int .i64 ((Lx.scan (s.data.toList.drop i)).fin i),.int .i64 (Lx.scan (s.data.toList.drop i)).err]))∧Below w.heap.size w X:=λX hX=>⟨by rw [HSB.out];rfl,hX⟩
  have FIN:=Q0 fin;clear fin;by_cases h13:13<m
  ·clear hbad
   go_wp2
   refine bodyPost_ret (v:=.tuple #[.agg #[.int .i64 0,.int .i64 0,.int .i64 0,.string { data:=#[] }],.int .i64 0,.int .i64 4]) (by simp [results,Tryz.results132,go_sem]) rfl (FIN.out _ ?_)
   exact q2f (q0g (q0g (q06 w) _) _) _
  ·cases h3:((c2:Int)==3)
   ·have h5:((c2:Int)==5)=true:=by
     rcases hbad with hb' | hb' | hb'
     ·omega
     ·rw [h3] at hb';cases hb'
     ·exact hb'
    clear hbad
    go_wp2
    refine bodyPost_ret (v:=.tuple #[.agg #[.int .i64 0,.int .i64 0,.int .i64 0,.string { data:=#[] }],.int .i64 0,.int .i64 4]) (by simp [results,Tryz.results132,go_sem]) rfl (FIN.out _ ?_)
    exact q2f (q0g (q0g (q06 w) _) _) _
   ·clear hbad
    go_wp2
    refine bodyPost_ret (v:=.tuple #[.agg #[.int .i64 0,.int .i64 0,.int .i64 0,.string { data:=#[] }],.int .i64 0,.int .i64 4]) (by simp [results,Tryz.results132,go_sem]) rfl (FIN.out _ ?_)
    exact q2f (q0g (q0g (q06 w) _) _) _
 ·have h13:m≤13:=by omega
  have h3:((c2:Int)==3)=false:=by rw [beq_eq_false_iff_ne];omega
  have h5:((c2:Int)==5)=false:=by rw [beq_eq_false_iff_ne];omega
  have hn13:(13<m)=False:=by simp;omega
  have hsc:=HSC.out;have h3':(c2==3)=false:=by rw [beq_eq_false_iff_ne];omega
  have h5':(c2==5)=false:=by rw [beq_eq_false_iff_ne];omega
  rw [if_neg (by rw [h3',h5'];simp;omega)] at hsc
  clear HSC hm h3' h5' hn13;have HSC:=Q0 hsc;clear hsc;have hx:=q3h s i (i+m);rw [Qj] at hx;have hlen:((s.data.toList.drop i).take m).length=m:=by
   rw [Ql,Q6,← q0r];omega
  have hat:=Lx.atoi_digits ((s.data.toList.drop i).take m) HDIG.out (by intro h;rw [h] at hlen;simp at hlen;omega)
  have hlt:=Lx.decVal_lt _ HDIG.out;rw [hlen] at hlt;have HAT:=Q0 hat;clear hat
  go_wp2_with fail
  refine (atoi_any ((s.data.toList.drop i).take m) _ (by rw [hlen];omega) HAT.out).mono ?_
  rintro e w3 ⟨rfl,hb3⟩;have hS3:Scan w3 b s:=(((h.alloc hb _).alloc (by simp;omega) _).drewN _).below hb3 (by simp;omega)
  have hbelow:Below w.heap.size w w3:=q4c (q2f (q0g (q0g (q06 w) _) _) _) hb3;have hblk:Blk w3 w.heap.size 154 #[.int .i64 0,.int .i64 0,.int .i64 0,.string { data:=#[] }] :=
   (((Blk.new w _ _).alloc _).drewN _).bel hb3
  have t0:=hS3.text;have k0:=hblk.cell 0;have k1:=hblk.cell 1;have k2:=hblk.cell 2;have k3:=hblk.cell 3;have f0:=hblk.frozen 0;have f1:=hblk.frozen 1;have f2:=hblk.frozen 2;have f3:=hblk.frozen 3;have HB:=Q0 hbelow;have HBLK:=Q0 hblk;clear hb3 hbelow hblk hS3;generalize Lx.qes ((s.data.toList.drop i).take m)=v at *
  go_wp2
  refine bodyPost_ret (q1j rfl _ _ w.heap.size 154 _ _ rfl ((((HBLK.out.set_ 0 _).set_ 1 _).set_ 2 _).set_ 3 _) Tryz.underlying154 rfl (by kernel_rfl)) rfl ⟨?_,?_⟩
  ·rw [HSC.out];rfl
  ·exact q1k (q1k (q1k (q1k HB.out (Q4 _) _) (Q4 _) _) (Q4 _) _) (Q4 _) _
end Go.Proofs.YtlfaaoalgcbcoaaGreatDoor
namespace Go.Proofs.YtlfaaoalgcbcoaaGreatDoor
open Go.RowKit
attribute [local go_sem] q28 q1o q1v
theorem tok_block (w:World) (m:Nat) (w3:World) (hb3:Below (((w.alloc (.cells #[.int .i64 0,.int .i64 0,.int .i64 0,.string { data:=#[] }] 154)).drewN m).heap.size) ((w.alloc (.cells #[.int .i64 0,.int .i64 0,.int .i64 0,.string { data:=#[] }] 154)).drewN m) w3) :
  Below w.heap.size w w3∧Blk w3 w.heap.size 154 #[.int .i64 0,.int .i64 0,.int .i64 0,.string { data:=#[] }] :=
 ⟨q4c (q2f (q0g (q06 w) _) _) hb3,((Blk.new w _ _).drewN _).bel hb3⟩
set_option maxRecDepth 100000 in
set_option maxHeartbeats 2000000 in
theorem next_quote (b:Nat) (s:ByteArray) (i:Nat) (w:World) (hs:s.size≤20000) (hi:i<s.size) (hb:b<w.heap.size) (h:Scan w b s) (hc:Lx.cls s[i]=6) :
  Calls Tryz.prog 132 #[.pointer (some ⟨b,0,none⟩),.int .i64 i] w λe w' =>
   e=.returned (.tuple #[(Lx.scan (s.data.toList.drop i)).out i,.int .i64 ((Lx.scan (s.data.toList.drop i)).fin i),.int .i64 (Lx.scan (s.data.toList.drop i)).err])∧Below w.heap.size w w':=by
 have hsc:=Lx.scan_quote s[i] (s.data.toList.drop (i+1)) hc;have hd:=q3n s i hi;rw [← hd] at hsc;have hc0:Lx.q2a (s.data.toList.drop i)=6:=by rw [hd];exact hc
 have HC:=Q0 hc0;clear hc hc0 hd;have h0:=h.text;obtain ⟨R,hR⟩:∃ R,s.extract (i+1) s.size=R:=⟨_,rfl⟩;have hRl:R.data.toList=s.data.toList.drop (i+1):=by
  rw [← hR,Qv];exact Qa (by rw [Q6,← q0r];exact Q4 _)
 have hRs:R.size=s.size-(i+1):=by rw [q0r,hRl,Q6,← q0r]
 have hRs':R.size≤20000:=by omega
 rw [← hRl] at hsc;have HSC:=Q0 hsc;clear hsc;have HRS:=Q0 hRs;clear hRs;obtain ⟨hin1,hin2⟩:=Lx.indexAny_in R.data.toList;have HIN1:=Q0 hin1;have HIN2:=Q0 hin2;clear hin1 hin2 hRl;have hge:=QP [34,10] R.data.toList
 go_enter Tryz.func132,Tryz.ntmps132
 go_wp2_with fail
 refine (q6f b s i _ (by omega) (by omega) (by exact h.alloc hb _)).mono ?_
 rintro e w' ⟨rfl,m1,rfl⟩;rw [Q7,HC.out]
 go_wp2_with fail
 refine (qn3 R _ (by omega)).mono ?_
 rintro e w3 ⟨rfl,hb3⟩;have hS3:Scan w3 b s:=((h.alloc hb _).drewN _).below hb3 (by simp;omega)
 obtain ⟨hbelow,hblk⟩:=tok_block w m1 w3 hb3;have t0:=hS3.text;have k0:=hblk.cell 0;have k1:=hblk.cell 1;have k2:=hblk.cell 2;have k3:=hblk.cell 3;have f0:=hblk.frozen 0;have f1:=hblk.frozen 1;have f2:=hblk.frozen 2;have f3:=hblk.frozen 3;have HB:=Q0 hbelow;have HBLK:=Q0 hblk;clear hb3 hbelow hblk hS3;by_cases hneg:Q8 R.data.toList [34,10]<0
 ·have hh:=HIN1.out hneg
  have hsb:Lx.scan (s.data.toList.drop i)=Lx.bad 6:=by rw [HSC.out,hh];rfl
  have HSB:=Q0 hsb;clear hsb hh HSC HIN1 HIN2;generalize Q8 R.data.toList [34,10]=o at *
  go_wp2
  refine bodyPost_ret (q1j rfl _ _ w.heap.size 154 _ _ rfl ((((HBLK.out.set_ 0 _).set_ 1 _).set_ 2 _).set_ 3 _) Tryz.underlying154 rfl (by kernel_rfl)) rfl ⟨?_,?_⟩
  ·rw [HSB.out];rfl
  ·exact q1k (q1k (q1k (q1k HB.out (Q4 _) _) (Q4 _) _) (Q4 _) _) (Q4 _) _
 ·obtain ⟨p1,p2,p3⟩:=HIN2.out (by omega)
  rw [← q0r] at p2;have HSC':=HSC.out;generalize Q8 R.data.toList [34,10]=o at *
  obtain ⟨q,rfl⟩:=Qk (show 0≤o by omega)
  have p1':Lx.span Lx.q3q R.data.toList=q:=by simpa using p1
  rw [p1'] at p2 p3 HSC';have hget:=qcj R q p2;rw [hget] at p3;have hhd:(R.data.toList.drop q).head? = some R[q]:=by rw [List.head?_drop,hget]
  rw [hhd] at HSC';have HX:=q3h R 0 q;rw [Nat.sub_zero,QV] at HX;clear p1 p1' HIN1 HIN2 hget hhd HSC;by_cases h10:R[q]=10
  ·have hsb:Lx.scan (s.data.toList.drop i)=Lx.bad 6:=by rw [HSC',h10];rfl
   have HSB:=Q0 hsb;have h10':((R[q].toNat:Int)==10)=true:=by rw [h10];rfl
   clear hsb HSC' h10 p3
   go_wp2
   refine bodyPost_ret (q1j rfl _ _ w.heap.size 154 _ _ rfl ((((HBLK.out.set_ 0 _).set_ 1 _).set_ 2 _).set_ 3 _) Tryz.underlying154 rfl (by kernel_rfl)) rfl ⟨?_,?_⟩
   ·rw [HSB.out];rfl
   ·exact q1k (q1k (q1k (q1k HB.out (Q4 _) _) (Q4 _) _) (Q4 _) _) (Q4 _) _
  ·have h34:R[q]=34:=by
    rcases p3 with h | h
    ·injection h
    ·injection h with h;exact absurd h h10
   have h10':((R[q].toNat:Int)==10)=false:=by rw [h34];rfl
   rw [h34] at HSC';rw [if_pos (beq_self_eq_true _)] at HSC';have HSC:=Q0 HSC';have HX':=Q0 HX;clear HSC' h10 p3 h34;by_cases h4:400<q
   ·have hsb:Lx.scan (s.data.toList.drop i)=Lx.bad 2:=by rw [HSC.out,if_pos h4]
    have HSB:=Q0 hsb;clear hsb HSC
    go_wp2
    refine bodyPost_ret (q1j rfl _ _ w.heap.size 154 _ _ rfl ((((HBLK.out.set_ 0 _).set_ 1 _).set_ 2 _).set_ 3 _) Tryz.underlying154 rfl (by kernel_rfl)) rfl ⟨?_,?_⟩
    ·rw [HSB.out];rfl
    ·exact q1k (q1k (q1k (q1k HB.out (Q4 _) _) (Q4 _) _) (Q4 _) _) (Q4 _) _
   ·have hsb:Lx.scan (s.data.toList.drop i)=⟨0,3,0,R.data.toList.take q,q+2⟩:=by rw [HSC.out,if_neg h4]
    have HSB:=Q0 hsb;clear hsb HSC
    go_wp2
    refine bodyPost_ret (q1j rfl _ _ w.heap.size 154 _ _ rfl ((((HBLK.out.set_ 0 _).set_ 1 _).set_ 2 _).set_ 3 _) Tryz.underlying154 rfl (by kernel_rfl)) rfl ⟨?_,?_⟩
    ·rw [HSB.out]
     simp only [Lx.Sc.out,Lx.Sc.fin,if_true];rw [← Nat.add_assoc];rfl
    ·exact q1k (q1k (q1k (q1k HB.out (Q4 _) _) (Q4 _) _) (Q4 _) _) (Q4 _) _
set_option maxRecDepth 100000 in
set_option maxHeartbeats 2000000 in
theorem next_mark (b:Nat) (s:ByteArray) (i:Nat) (w:World) (hs:s.size≤20000) (hi:i<s.size) (hb:b<w.heap.size) (h:Scan w b s) (hc:Lx.cls s[i]=7) :
  Calls Tryz.prog 132 #[.pointer (some ⟨b,0,none⟩),.int .i64 i] w λe w' =>
   e=.returned (.tuple #[(Lx.scan (s.data.toList.drop i)).out i,.int .i64 ((Lx.scan (s.data.toList.drop i)).fin i),.int .i64 (Lx.scan (s.data.toList.drop i)).err])∧Below w.heap.size w w':=by
 have hsc:=Lx.scan_mark s[i] (s.data.toList.drop (i+1)) hc;have hd:=q3n s i hi;rw [← hd] at hsc;have hc0:Lx.q2a (s.data.toList.drop i)=7:=by rw [hd];exact hc
 have HC:=Q0 hc0;have h0:=h.text;obtain ⟨R,hR⟩:∃ R,s.extract (i+1) s.size=R:=⟨_,rfl⟩;have hRl:R.data.toList=s.data.toList.drop (i+1):=by
  rw [← hR,Qv];exact Qa (by rw [Q6,← q0r];exact Q4 _)
 have hpre:Qt R.data.toList [61]=((s.data.toList.drop (i+1)).head? == some 61):=by
  rw [hRl];cases s.data.toList.drop (i+1) with
  | nil=>rfl
  | cons c r =>
   simp only [Qt,QR,QS,Bool.and_true];rw [Qq];simp;exact eq_comm
 have HPRE:=Q0 hpre;clear hpre;rcases Qw ((s.data.toList.drop (i+1)).head? == some 61) with hq | hq
 ·have hlt:i+1<s.size:=by
   rcases Qp (i+1) s.size with h1 | h1
   ·exact h1
   ·rw [Qe (by rw [← q0r];exact h1)] at hq;cases hq
  have hxt:s.extract i (i+2)=bs [s[i],61]:=by
   rw [q3h,show i+2-i=2 from by omega,hd]
   have h2:=q3n s (i+1) hlt;rw [h2] at hq ⊢;have h3:s[i+1]=61:=by simpa using hq
   rw [h3];rfl
  rw [if_pos hq] at hsc;have HSC:=Q0 hsc;have HXT:=Q0 hxt;clear hsc hd hc hRl hc0
  go_enter Tryz.func132,Tryz.ntmps132
  go_wp2_with fail
  refine (q6f b s i _ (by omega) (by omega) (by exact h.alloc hb _)).mono ?_
  rintro e w' ⟨rfl,m1,rfl⟩;rw [Q7,HC.out]
  go_wp2_with fail
  refine (Tryz.strings_HasPrefix R _ _).mono ?_;rintro e w' ⟨rfl,rfl⟩;rw [show (({ data:=#[61] }:ByteArray).data.toList)=[61] from rfl,HPRE.out];rw [hq];clear hq
  go_wp2
  refine bodyPost_ret (q1j rfl _ _ w.heap.size 154 _ _ rfl (by exact (Blk.new w _ _).drewN _) Tryz.underlying154 rfl (by kernel_rfl)) rfl ⟨?_,?_⟩
  ·rw [HSC.out,HXT.out];rfl
  ·exact q2f (q0g (q06 w) _) _
 ·rw [if_neg (by rw [hq];decide)] at hsc
  have HSC:=Q0 hsc;clear hsc hd hc hRl hc0
  go_enter Tryz.func132,Tryz.ntmps132
  go_wp2_with fail
  refine (q6f b s i _ (by omega) (by omega) (by exact h.alloc hb _)).mono ?_
  rintro e w' ⟨rfl,m1,rfl⟩;rw [Q7,HC.out]
  go_wp2_with fail
  refine (Tryz.strings_HasPrefix R _ _).mono ?_;rintro e w' ⟨rfl,rfl⟩;rw [show (({ data:=#[61] }:ByteArray).data.toList)=[61] from rfl,HPRE.out];rw [hq];clear hq
  go_wp2
  refine bodyPost_ret (q1j rfl _ _ w.heap.size 154 _ _ rfl (by exact (Blk.new w _ _).drewN _) Tryz.underlying154 rfl (by kernel_rfl)) rfl ⟨?_,?_⟩
  ·rw [HSC.out];rfl
  ·exact q2f (q0g (q06 w) _) _
set_option maxRecDepth 100000 in
set_option maxHeartbeats 2000000 in
theorem next_angle (b:Nat) (s:ByteArray) (i:Nat) (w:World) (hs:s.size≤20000) (hi:i<s.size) (hb:b<w.heap.size) (h:Scan w b s) (hc:Lx.cls s[i]=8) :
  Calls Tryz.prog 132 #[.pointer (some ⟨b,0,none⟩),.int .i64 i] w λe w' =>
   e=.returned (.tuple #[(Lx.scan (s.data.toList.drop i)).out i,.int .i64 ((Lx.scan (s.data.toList.drop i)).fin i),.int .i64 (Lx.scan (s.data.toList.drop i)).err])∧Below w.heap.size w w':=by
 have hsc:=Lx.scan_angle s[i] (s.data.toList.drop (i+1)) hc;have hd:=q3n s i hi;rw [← hd] at hsc;have hc0:Lx.q2a (s.data.toList.drop i)=8:=by rw [hd];exact hc
 have HC:=Q0 hc0;have h0:=h.text;obtain ⟨R,hR⟩:∃ R,s.extract (i+1) s.size=R:=⟨_,rfl⟩;have hRl:R.data.toList=s.data.toList.drop (i+1):=by
  rw [← hR,Qv];exact Qa (by rw [Q6,← q0r];exact Q4 _)
 have hpre:Qt R.data.toList [61]=((s.data.toList.drop (i+1)).head? == some 61):=by
  rw [hRl];cases s.data.toList.drop (i+1) with
  | nil=>rfl
  | cons c r =>
   simp only [Qt,QR,QS,Bool.and_true];rw [Qq];simp;exact eq_comm
 have HPRE:=Q0 hpre;clear hpre;rcases Qw ((s.data.toList.drop (i+1)).head? == some 61) with hq | hq
 ·have hlt:i+1<s.size:=by
   rcases Qp (i+1) s.size with h1 | h1
   ·exact h1
   ·rw [Qe (by rw [← q0r];exact h1)] at hq;cases hq
  have hxt:s.extract i (i+2)=bs [s[i],61]:=by
   rw [q3h,show i+2-i=2 from by omega,hd]
   have h2:=q3n s (i+1) hlt;rw [h2] at hq ⊢;have h3:s[i+1]=61:=by simpa using hq
   rw [h3];rfl
  rw [if_pos hq] at hsc;have HSC:=Q0 hsc;have HXT:=Q0 hxt;clear hsc hd hc hRl hc0
  go_enter Tryz.func132,Tryz.ntmps132
  go_wp2_with fail
  refine (q6f b s i _ (by omega) (by omega) (by exact h.alloc hb _)).mono ?_
  rintro e w' ⟨rfl,m1,rfl⟩;rw [Q7,HC.out]
  go_wp2_with fail
  refine (Tryz.strings_HasPrefix R _ _).mono ?_;rintro e w' ⟨rfl,rfl⟩;rw [show (({ data:=#[61] }:ByteArray).data.toList)=[61] from rfl,HPRE.out];rw [hq];clear hq
  go_wp2
  refine bodyPost_ret (q1j rfl _ _ w.heap.size 154 _ _ rfl (by exact (Blk.new w _ _).drewN _) Tryz.underlying154 rfl (by kernel_rfl)) rfl ⟨?_,?_⟩
  ·rw [HSC.out,HXT.out];rfl
  ·exact q2f (q0g (q06 w) _) _
 ·rw [if_neg (by rw [hq];decide)] at hsc
  have hxt:s.extract i (i+1)=bs [s[i]]:=by
   rw [q3h,show i+1-i=1 from by omega,hd]
   rfl
  have HSC:=Q0 hsc;have HXT:=Q0 hxt;clear hsc hd hc hRl hc0 hxt
  go_enter Tryz.func132,Tryz.ntmps132
  go_wp2_with fail
  refine (q6f b s i _ (by omega) (by omega) (by exact h.alloc hb _)).mono ?_
  rintro e w' ⟨rfl,m1,rfl⟩;rw [Q7,HC.out]
  go_wp2_with fail
  refine (Tryz.strings_HasPrefix R _ _).mono ?_;rintro e w' ⟨rfl,rfl⟩;rw [show (({ data:=#[61] }:ByteArray).data.toList)=[61] from rfl,HPRE.out];rw [hq];clear hq
  go_wp2
  refine bodyPost_ret (q1j rfl _ _ w.heap.size 154 _ _ rfl (by exact (Blk.new w _ _).drewN _) Tryz.underlying154 rfl (by kernel_rfl)) rfl ⟨?_,?_⟩
  ·rw [HSC.out,HXT.out];rfl
  ·exact q2f (q0g (q06 w) _) _
set_option maxRecDepth 100000 in
set_option maxHeartbeats 2000000 in
theorem next_sym (b:Nat) (s:ByteArray) (i:Nat) (w:World) (hs:s.size≤20000) (hi:i<s.size) (hb:b<w.heap.size) (h:Scan w b s) (hc:Lx.cls s[i]=9) :
  Calls Tryz.prog 132 #[.pointer (some ⟨b,0,none⟩),.int .i64 i] w λe w' =>
   e=.returned (.tuple #[(Lx.scan (s.data.toList.drop i)).out i,.int .i64 ((Lx.scan (s.data.toList.drop i)).fin i),.int .i64 (Lx.scan (s.data.toList.drop i)).err])∧Below w.heap.size w w':=by
 have hsc:=Lx.scan_sym s[i] (s.data.toList.drop (i+1)) hc;have hd:=q3n s i hi;rw [← hd] at hsc;have hc0:Lx.q2a (s.data.toList.drop i)=9:=by rw [hd];exact hc
 have HC:=Q0 hc0;have h0:=h.text;have hxt:s.extract i (i+1)=bs [s[i]]:=by
  rw [q3h,show i+1-i=1 from by omega,hd]
  rfl
 have HSC:=Q0 hsc;have HXT:=Q0 hxt;clear hsc hd hc hc0 hxt
 go_enter Tryz.func132,Tryz.ntmps132
 go_wp2_with fail
 refine (q6f b s i _ (by omega) (by omega) (by exact h.alloc hb _)).mono ?_
 rintro e w' ⟨rfl,m1,rfl⟩;rw [Q7,HC.out]
 go_wp2
 refine bodyPost_ret (q1j rfl _ _ w.heap.size 154 _ _ rfl (by exact (Blk.new w _ _).drewN _) Tryz.underlying154 rfl (by kernel_rfl)) rfl ⟨?_,?_⟩
 ·rw [HSC.out,HXT.out];rfl
 ·exact q2f (q0g (q06 w) _) _
set_option maxRecDepth 100000 in
set_option maxHeartbeats 2000000 in
theorem next_other (b:Nat) (s:ByteArray) (i:Nat) (w:World) (hs:s.size≤20000) (hi:i<s.size) (hb:b<w.heap.size) (h:Scan w b s) (h3:Lx.cls s[i]≠3) (h4:Lx.cls s[i]≠4) (h6:Lx.cls s[i]≠6) (h7:Lx.cls s[i]≠7) (h8:Lx.cls s[i]≠8) (h9:Lx.cls s[i]≠9) :
  Calls Tryz.prog 132 #[.pointer (some ⟨b,0,none⟩),.int .i64 i] w λe w' =>
   e=.returned (.tuple #[(Lx.scan (s.data.toList.drop i)).out i,.int .i64 ((Lx.scan (s.data.toList.drop i)).fin i),.int .i64 (Lx.scan (s.data.toList.drop i)).err])∧Below w.heap.size w w':=by
 have hsc:=Lx.scan_other s[i] (s.data.toList.drop (i+1)) h3 h4 h6 h7 h8 h9;have hd:=q3n s i hi;rw [← hd] at hsc;have hc0:Lx.q2a (s.data.toList.drop i)=Lx.cls s[i]:=by rw [hd];rfl
 have HC:=Q0 hc0;have e3:((Lx.cls s[i]:Int)==3)=false:=by rw [beq_eq_false_iff_ne];omega
 have e4:((Lx.cls s[i]:Int)==4)=false:=by rw [beq_eq_false_iff_ne];omega
 have e6:((Lx.cls s[i]:Int)==6)=false:=by rw [beq_eq_false_iff_ne];omega
 have e7:((Lx.cls s[i]:Int)==7)=false:=by rw [beq_eq_false_iff_ne];omega
 have e8:((Lx.cls s[i]:Int)==8)=false:=by rw [beq_eq_false_iff_ne];omega
 have e9:((Lx.cls s[i]:Int)==9)=false:=by rw [beq_eq_false_iff_ne];omega
 have HSC:=Q0 hsc;clear hsc hd hc0
 go_enter Tryz.func132,Tryz.ntmps132
 go_wp2_with fail
 refine (q6f b s i _ (by omega) (by omega) (by exact h.alloc hb _)).mono ?_
 rintro e w' ⟨rfl,m1,rfl⟩;rw [Q7,HC.out];generalize Lx.cls s[i]=cc at *
 go_wp2
 refine bodyPost_ret (q1j rfl _ _ w.heap.size 154 _ _ rfl (by exact (Blk.new w _ _).drewN _) Tryz.underlying154 rfl (by kernel_rfl)) rfl ⟨?_,?_⟩
 ·rw [HSC.out];rfl
 ·exact q2f (q0g (q06 w) _) _
theorem next_any (b:Nat) (s:ByteArray) (i:Int) (w:World) (hs:s.size≤20000) (hi0:0≤i) (hi:i<s.size) (hb:b<w.heap.size) (h:Scan w b s) :
  Calls Tryz.prog 132 #[.pointer (some ⟨b,0,none⟩),.int .i64 i] w λe w' =>
   e=.returned (.tuple #[(Lx.scan (s.data.toList.drop i.toNat)).out i.toNat,.int .i64 ((Lx.scan (s.data.toList.drop i.toNat)).fin i.toNat),.int .i64 (Lx.scan (s.data.toList.drop i.toNat)).err])∧Below w.heap.size w w':=by
 obtain ⟨i,rfl⟩:=Qk hi0;rw [Q7];have hi':i<s.size:=by omega
 by_cases h3:Lx.cls s[i]=3
 ·exact next_letter b s i w hs hi' hb h h3
 by_cases h4:Lx.cls s[i]=4
 ·exact next_digit b s i w hs hi' hb h h4
 by_cases h6:Lx.cls s[i]=6
 ·exact next_quote b s i w hs hi' hb h h6
 by_cases h7:Lx.cls s[i]=7
 ·exact next_mark b s i w hs hi' hb h h7
 by_cases h8:Lx.cls s[i]=8
 ·exact next_angle b s i w hs hi' hb h h8
 by_cases h9:Lx.cls s[i]=9
 ·exact next_sym b s i w hs hi' hb h h9
 exact next_other b s i w hs hi' hb h h3 h4 h6 h7 h8 h9
end Go.Proofs.YtlfaaoalgcbcoaaGreatDoor
namespace Go.Proofs.YtlfaaoalgcbcoaaGreatDoor
open Go.RowKit
def q1l (C:Array Value) (l:List UInt8) (k:Int):Array Value:=l.foldl (λC c=>C.setIfInBounds c.toNat (.int .i64 k)) C
theorem q3g (C:Array Value) (l:List UInt8) (k:Int):(q1l C l k).size=C.size:=by
 unfold q1l
 induction l generalizing C with
 | nil=>rfl
 | cons c r ih=>rw [Qy,ih];simp
theorem setAll_snoc (C:Array Value) (l:List UInt8) (c:UInt8) (k:Int):q1l C (l++[c]) k=(q1l C l k).setIfInBounds c.toNat (.int .i64 k):=by
 simp [q1l]
theorem qn5 (w:World) (g i:Nat) (C:Array Value) (t:TypeId) (v:Value) (C':Array Value) (hg:w.heap[g]? = some (.cells C t (0,0))):(w.setRow g C').setCell ⟨g,i,none⟩ v=w.setRow g (C'.setIfInBounds i v):=by
 simp only [Qx,World.setCell]
 congr 1
 apply QH
 intro j;simp only [Qb];by_cases h:g=j
 ·subst h;simp [hg]
 ·simp [h]
theorem setRow_heap (w:World) (g:Nat) (C:Array Value) (t:TypeId) (C':Array Value) (hg:w.heap[g]? = some (.cells C t (0,0))):(w.setRow g C').heap[g]? = some (.cells C' t (0,0)):=by
 simp [Qx,Qb,hg]
theorem setRow_self (w:World) (g:Nat) (C:Array Value) (t:TypeId) (hg:w.heap[g]? = some (.cells C t (0,0))):w.setRow g C=w:=by
 simp only [Qx];have:(w.heap.modify g fun | .cells _ elem frozen=>.cells C elem frozen | o=>o)=w.heap:=by
  apply QH
  intro j;rw [Qb];by_cases h:g=j
  ·subst h;simp [hg]
  ·simp [h]
 exact congrArg (λh=>({ w with heap:=h }:World)) this
set_option maxRecDepth 100000 in
set_option maxHeartbeats 1000000 in
theorem set_any (s:ByteArray) (k:Int) (g:Nat) (C:Array Value) (w:World) (hs:s.size≤1000) (hC:C.size=256) (hg:w.heap[g]? = some (.cells C 174 (0,0))) :
  Calls Tryz.prog 154 #[.string s,.int .i64 k,.pointer (some ⟨g,0,none⟩)] w λe w'=>e=.returned (.tuple #[])∧w'=w.setRow g (q1l C s.data.toList k):=by
 have HG:=Q0 hg;have hw:w=w.setRow g (q1l C (s.data.toList.take 0) k):=(setRow_self w g C _ hg).symm;have HW:=Q0 hw;clear hw hg;have HC:=Q0 hC;clear hC
 go_enter Tryz.func154,Tryz.ntmps154
 go_wp2
 go_loopw [5] (λv wr=>∃ i:Nat,i≤s.size∧v=.int .i64 i∧wr=w.setRow g (q1l C (s.data.toList.take i) k)) (λv _=>s.size-(intOf v).toNat)
 case atStart=>exact ⟨0,by omega,rfl,HW.out⟩
 case round =>
  obtain ⟨i,hi,rfl,hwr⟩:=hrel;have HWR:=Q0 hwr;clear hwr;by_cases hlt:i<s.size
  ·have hx:=qcj s i hlt
   have HX:=Q0 hx;clear hx;have hb:s[i].toNat<256:=Qi s[i];have hh:wr.heap[g]? = some (.cells (q1l C (s.data.toList.take i) k) 174 (0,0)):=by rw [HWR.out];exact setRow_heap w g C _ _ HG.out
   have hcell:wr.cell? ⟨g,s[i].toNat,none⟩=some ((q1l C (s.data.toList.take i) k)[s[i].toNat]'(by rw [q3g,HC.out];exact hb)):=by
    rw [cell_of_row wr g _ _ _ _ hh];simp
   have hfr:wr.frozen? ⟨g,s[i].toNat,none⟩=false:=frozen_of_row wr g _ _ _ hh;clear hh;generalize (q1l C (s.data.toList.take i) k)[s[i].toNat]'(by rw [q3g,HC.out];exact hb)=old at *
   go_wp2
   go_roundw
   case rel =>
    refine ⟨i+1,by omega,by go_num,?_⟩
    rw [List.take_add_one,HX.out,HWR.out];simp only [Option.toList];rw [setAll_snoc,← qn5 w g _ C _ _ _ HG.out]
   case measure=>simp [intOf];omega
  ·go_wp2
   go_end0
   refine ⟨rfl,?_⟩;have hi2:i=s.size:=by omega
   rw [HWR.out,Qa (by rw [← q0r];omega)]
theorem setRow_two (w:World) (o:Obj) (c c':Array Value) (t:TypeId):((w.alloc o).alloc (.cells c t)).setRow (w.heap.size+1) c'=(w.alloc o).alloc (.cells c' t):=by
 have:=QA (w.alloc o) c c' t
 simpa using this
theorem heap_two (w:World) (o o':Obj):((w.alloc o).alloc o').heap[w.heap.size+1]? = some o':=by
 have:=heap_alloc_last (w.alloc o) o'
 simpa using this
theorem q7d (s:ByteArray) (k:Int) (w:World) (o:Obj) (C:Array Value) (hs:s.size≤1000) (hC:C.size=256) :
  Calls Tryz.prog 154 #[.string s,.int .i64 k,.pointer (some ⟨w.heap.size+1,0,none⟩)] ((w.alloc o).alloc (.cells C 174)) λe w' =>
   e=.returned (.tuple #[])∧w'=(w.alloc o).alloc (.cells (q1l C s.data.toList k) 174):=by
 refine (set_any s k (w.heap.size+1) C _ hs hC (heap_two w o _)).mono ?_;rintro e w' ⟨rfl,rfl⟩;exact ⟨rfl,setRow_two w o _ _ _⟩
def tab0:Array Value:=QO 256 (.int .i64 0)
def tab1:Array Value:=q1l tab0 [97,98,99,100,101,102,103,104,105,106,107,108,109,110,111,112,113,114,115,116,117,118,119,120,121,122,65,66,67,68,69,70,71,72,73,74,75,76,77,78,79,80,81,82,83,84,85,86,87,88,89,90] 3
def tab2:Array Value:=q1l tab1 [48,49,50,51,52,53,54,55,56,57] 4
def tab3:Array Value:=q1l tab2 [95] 5
def tab4:Array Value:=q1l tab3 [32,9,10] 1
def tab5:Array Value:=q1l tab4 [35] 2
def tab6:Array Value:=q1l tab5 [34] 6
def tab7:Array Value:=q1l tab6 [33] 7
def tab8:Array Value:=q1l tab7 [60,62] 8
def tab9:Array Value:=q1l tab8 [59,44,46,58,40,41,91,93,123,125,61,43,45] 9
theorem qdo:tab0.size=256:=by simp [tab0]
theorem tab1_size:tab1.size=256:=by unfold tab1;rw [q3g,qdo]
theorem tab2_size:tab2.size=256:=by unfold tab2;rw [q3g,tab1_size]
theorem tab3_size:tab3.size=256:=by unfold tab3;rw [q3g,tab2_size]
theorem tab4_size:tab4.size=256:=by unfold tab4;rw [q3g,tab3_size]
theorem tab5_size:tab5.size=256:=by unfold tab5;rw [q3g,tab4_size]
theorem tab6_size:tab6.size=256:=by unfold tab6;rw [q3g,tab5_size]
theorem tab7_size:tab7.size=256:=by unfold tab7;rw [q3g,tab6_size]
theorem tab8_size:tab8.size=256:=by unfold tab8;rw [q3g,tab7_size]
def q4i:Array Value:=((List.range 256).map λc=>Qd .i64 (Lx.cls (QL c):Nat)).toArray
theorem tab_all:tab9=q4i:=by kernel_rfl
theorem q7t:q4i.size=256:=by kernel_rfl
theorem clsTab_at (c:UInt8):q4i[c.toNat]? = some (.int .i64 (Lx.cls c:Nat)):=by
 have hc:c.toNat<256:=Qi c;have h:q4i.toList[c.toNat]? = some (.int .i64 (Lx.cls c:Nat)):=by
  show ((List.range 256).map λc=>Qd .i64 (Lx.cls (QL c):Nat))[c.toNat]? = _
  rw [Qf,List.getElem?_range hc];simp
 simpa using h
theorem qlp:q4i.all (·.oneCell')=true:=by kernel_rfl
theorem zero_tab:∀ w,(zeroValue 174).run Tryz.prog w=.ok (.agg tab0) w:=λ_=>by kernel_rfl
theorem qkp:(Tryz.prog.info? 174).map (·.size)=some 256:=by kernel_rfl
set_option maxRecDepth 100000 in
set_option maxHeartbeats 1000000 in
theorem classes_any (w:World) :
  Calls Tryz.prog 130 #[] w λe w'=>e=.returned (.agg q4i)∧Below w.heap.size w w':=by
 have hmf:∀ (fn:Fn) (first cap:Array Value) (w:World),(Instr.makeFunc fn first cap).run Tryz.prog w=.ok (.func fn first cap) w:=λ_ _ _ _=>rfl
 have hz:=zero_tab
 go_enter Tryz.func130,Tryz.ntmps130
 go_wp2_with fail
 refine (q7d { data:=#[97,98,99,100,101,102,103,104,105,106,107,108,109,110,111,112,113,114,115,116,117,118,119,120,121,122,65,66,67,68,69,70,71,72,73,74,75,76,77,78,79,80,81,82,83,84,85,86,87,88,89,90] } 3 w _ tab0 (by show 52≤1000;omega) qdo).mono ?_
 rintro e w' ⟨rfl,rfl⟩;rw [show q1l tab0 ({ data:=#[97,98,99,100,101,102,103,104,105,106,107,108,109,110,111,112,113,114,115,116,117,118,119,120,121,122,65,66,67,68,69,70,71,72,73,74,75,76,77,78,79,80,81,82,83,84,85,86,87,88,89,90] }:ByteArray).data.toList 3=tab1 from rfl]
 go_wp2_with fail
 refine (q7d { data:=#[48,49,50,51,52,53,54,55,56,57] } 4 w _ tab1 (by show 10≤1000;omega) tab1_size).mono ?_
 rintro e w' ⟨rfl,rfl⟩;rw [show q1l tab1 ({ data:=#[48,49,50,51,52,53,54,55,56,57] }:ByteArray).data.toList 4=tab2 from rfl]
 go_wp2_with fail
 refine (q7d { data:=#[95] } 5 w _ tab2 (by show 1≤1000;omega) tab2_size).mono ?_
 rintro e w' ⟨rfl,rfl⟩;rw [show q1l tab2 ({ data:=#[95] }:ByteArray).data.toList 5=tab3 from rfl]
 go_wp2_with fail
 refine (q7d { data:=#[32,9,10] } 1 w _ tab3 (by show 3≤1000;omega) tab3_size).mono ?_
 rintro e w' ⟨rfl,rfl⟩;rw [show q1l tab3 ({ data:=#[32,9,10] }:ByteArray).data.toList 1=tab4 from rfl]
 go_wp2_with fail
 refine (q7d { data:=#[35] } 2 w _ tab4 (by show 1≤1000;omega) tab4_size).mono ?_
 rintro e w' ⟨rfl,rfl⟩;rw [show q1l tab4 ({ data:=#[35] }:ByteArray).data.toList 2=tab5 from rfl]
 go_wp2_with fail
 refine (q7d { data:=#[34] } 6 w _ tab5 (by show 1≤1000;omega) tab5_size).mono ?_
 rintro e w' ⟨rfl,rfl⟩;rw [show q1l tab5 ({ data:=#[34] }:ByteArray).data.toList 6=tab6 from rfl]
 go_wp2_with fail
 refine (q7d { data:=#[33] } 7 w _ tab6 (by show 1≤1000;omega) tab6_size).mono ?_
 rintro e w' ⟨rfl,rfl⟩;rw [show q1l tab6 ({ data:=#[33] }:ByteArray).data.toList 7=tab7 from rfl]
 go_wp2_with fail
 refine (q7d { data:=#[60,62] } 8 w _ tab7 (by show 2≤1000;omega) tab7_size).mono ?_
 rintro e w' ⟨rfl,rfl⟩;rw [show q1l tab7 ({ data:=#[60,62] }:ByteArray).data.toList 8=tab8 from rfl]
 go_wp2_with fail
 refine (q7d { data:=#[59,44,46,58,40,41,91,93,123,125,61,43,45] } 9 w _ tab8 (by show 13≤1000;omega) tab8_size).mono ?_
 rintro e w' ⟨rfl,rfl⟩;rw [show q1l tab8 ({ data:=#[59,44,46,58,40,41,91,93,123,125,61,43,45] }:ByteArray).data.toList 9=tab9 from rfl];rw [tab_all]
 go_wp2_with (first | (refine wpList_load_row rfl 174 _ rfl (w.heap.size+1) rfl 174 q4i (0,0) _ (heap_two w _ _) Tryz.underlying174 rfl (by rw [q7t];exact qkp) ?_) | (refine wpList_store_row rfl 174 _ _ rfl w.heap.size q4i rfl rfl 174 tab0 ?h1 (by rw [q7t];exact qkp) (by rw [q7t,qdo]) qlp ?_))
 case h1=>exact heap_alloc2_old w _ _
 have hh:((((w.alloc (.cells tab0 174)).alloc (.cells q4i 174))).setRow w.heap.size q4i).heap[w.heap.size]? = some (.cells q4i 174 (0,0)) :=
  setRow_heap _ _ tab0 _ _ (heap_alloc2_old w _ _)
 refine bodyPost_ret (results_cell_row rfl _ _ w.heap.size 174 q4i (0,0) _ rfl hh Tryz.underlying174 rfl (by rw [q7t];exact qkp)) rfl ⟨rfl,?_⟩
 refine (((Qh w.heap.size w).alloc (Q4 _) (.cells tab0 174)).alloc (by simp) (.cells q4i 174)).trans ⟨rfl,rfl,rfl,by simp,λk hk=>?_⟩
 simp only [Qx,Qb];rw [if_neg (by omega)]
end Go.Proofs.YtlfaaoalgcbcoaaGreatDoor
namespace Go.Proofs.YtlfaaoalgcbcoaaGreatDoor
open Go.RowKit
attribute [local go_sem] q28 q1o q1v
def Lx.Tok.cells (t:Lx.Tok):List Value:=[.int .i64 t.kind,.int .i64 t.pos,.int .i64 t.n,.string (bs t.text)]
def q5n (l:List Lx.Tok):List Value:=l.flatMap Lx.Tok.cells
theorem qlu (l r:List Lx.Tok):q5n (l++r)=q5n l++q5n r:=by simp [q5n]
def TokRow (w:World) (base:Nat) (v:Value) (l:List Lx.Tok):Prop:=w.ownsRow base 154 4 v l.length (q5n l)
theorem info_tok:(Tryz.prog.info? 154).map (λi=>(i.zero,i.size,i.bytes))=some (some (.agg #[.int .i64 0,.int .i64 0,.int .i64 0,.string { data:=#[] }]),4,40):=by kernel_rfl
def q2o (s:ByteArray):Array Value:=#[.string s]++q4i
theorem qen (s:ByteArray):(q2o s).size=257:=by
 unfold q2o;rw [QK,q7t];rfl
theorem qng (s:ByteArray):(q2o s).all (·.oneCell')=true:=by
 unfold q2o;rw [Array.all_append,qlp];simp [QW]
theorem zeroScan:∀ w,(zeroValue 177).run Tryz.prog w=.ok (.agg (#[.string { data:=#[] }]++tab0)) w:=λ_=>by kernel_rfl
theorem builtScan (s:ByteArray):Tryz.prog.built 177 [(0,.string s),(1,.agg q4i)]=some (q2o s):=by kernel_rfl
theorem infoScan:(Tryz.prog.info? 177).map (·.size)=some 257:=by kernel_rfl
theorem scan_new (w:World) (s:ByteArray) (t:TypeId) (g:Nat) (h:Blk w g t (q2o s)):Scan w g s:=by
 refine ⟨(h.cell 0).trans ?_,λc=>(h.cell _).trans ?_⟩
 ·unfold q2o
  rw [Array.getElem?_append_left (by simp)]
  rfl
 ·unfold q2o
  rw [Array.getElem?_append_right (by simp)]
  simp only [List.size_toArray,List.length_singleton,Qj];exact clsTab_at c
end Go.Proofs.YtlfaaoalgcbcoaaGreatDoor
namespace Go.Proofs.YtlfaaoalgcbcoaaGreatDoor
open Go.RowKit
attribute [local go_sem] q28 q1o q1v
theorem setRow_last (w:World) (c c':Array Value) (t:TypeId):(w.alloc (.cells c t)).setRow w.heap.size c'=w.alloc (.cells c' t):=QA w c c' t
structure LexRel (s:ByteArray) (w0:World) (out i:Value) (wr:World):Prop where
 ex:∃ (A:Option Addr) (c k f:Nat) (l:List Lx.Tok),out=.slice A l.length c∧i=.int .i64 k∧k≤s.size∧l.length≤5000 ∧
  wr.ownsRow w0.heap.size 154 4 out l.length (q5n l)∧s.size<f+k∧Lx.q6s f l k (s.data.toList.drop k)=Lx.lex s.data.toList
 below:Below w0.heap.size w0 wr
set_option maxRecDepth 100000 in
set_option maxHeartbeats 400000 in
theorem lex_any (s:ByteArray) (w:World) (hs:s.size≤9223372036854775807) :
  Calls Tryz.prog 102 #[.string s] w λe w'=>∃ v,e=.returned (.tuple #[v,.int .i64 (Lx.lex s.data.toList).2.1,.int .i64 (Lx.lex s.data.toList).2.2]) ∧
   TokRow w' w.heap.size v (Lx.lex s.data.toList).1∧Below w.heap.size w w':=by
 by_cases hbig:20000<s.size
 ·have hl:Lx.lex s.data.toList=([],2,-1):=by
   unfold Lx.lex;rw [if_pos (by rw [← q0r];exact hbig)]
  rw [hl];clear hl
  go_enter Tryz.func102,Tryz.ntmps102
  go_wp2
  go_ret3
  exact ⟨_,rfl,⟨rfl,.inl ⟨rfl,rfl⟩⟩,q06 w⟩
 ·have hz:=zeroScan
  go_enter Tryz.func102,Tryz.ntmps102
  go_wp2_with fail
  refine (classes_any _).mono ?_;rintro e w1 ⟨rfl,hb1⟩;have HB1:=Q0 hb1;clear hb1
  go_wp2_with (first | (refine qm0 rfl 177 _ rfl [(0,.string s),(1,.agg q4i)] rfl (q2o s) (builtScan s) ?_) | (refine wpList_store_row rfl 177 _ _ rfl w1.heap.size (q2o s) rfl rfl 177 _ (heap_alloc_last w1 _) (by rw [qen];exact infoScan) (by rw [qen,QK,qdo];rfl) (qng s) ?_))
  rw [setRow_last w1 _ (q2o s)]
  go_wp2_with fail
  refine (gap_any w1.heap.size s 0 _ (by omega) (by omega) (by omega) (by simp) (scan_new _ s _ _ (Blk.new w1 _ _))).mono ?_
  rintro e w2 ⟨rfl,hb2⟩;rw [show (0:Int).toNat=0 from rfl,QV,QI];have hw0:Below w.heap.size w (w1.alloc (.cells (q2o s) 177)):=q0g HB1.out _;have hS0:=scan_new _ s _ _ (Blk.new w1 177 (q2o s));have hlt0:w1.heap.size<(w1.alloc (.cells (q2o s) 177)).heap.size:=by simp
  generalize hW0:w1.alloc (.cells (q2o s) 177)=W0 at *
  generalize hB0:w1.heap.size=b0 at *
  clear hW0 hz;have hg0:=Lx.gap_le s.data.toList;rw [← q0r] at hg0;have hl:Lx.q6s (s.data.toList.length+1) [] (Lx.gap s.data.toList) (s.data.toList.drop (Lx.gap s.data.toList))=Lx.lex s.data.toList:=by
   unfold Lx.lex;rw [if_neg (by rw [← q0r];exact hbig)]
  have HL:=Q0 hl;have HW0:=Q0 hw0;have HS0:=Q0 hS0;have HB2:=Q0 hb2;clear hl hw0 hS0 hb2
  go_wp2
  go_loopw [6,7] (λout i wr=>LexRel s W0 out i wr) (λ_ i _=>s.size-(intOf i).toNat)
  case atStart=>exact ⟨⟨none,0,_,_,[],rfl,rfl,hg0,by simp,⟨rfl,.inl ⟨rfl,rfl⟩⟩,by rw [q0r];omega,HL.out⟩,HB2.out⟩
  case round =>
   obtain ⟨⟨A,c,k,f,l,rfl,rfl,hk,hl5,hown,hf,hlex⟩,hbr⟩:=hrel;have HOWN:=Q0 hown;have HLEX:=Q0 hlex;clear hown hlex HL HB2;have hSr:=HS0.out.below hbr hlt0;have hszr:=hbr.size;have HBR:=Q0 hbr;have HSR:=Q0 hSr;clear hbr hSr;by_cases hlt:k<s.size
   ·obtain ⟨f,rfl⟩:∃ f',f=f'+1:=⟨f-1,by omega⟩
    have hd:=q3n s k hlt;have hlex:=HLEX.out;rw [hd] at hlex;have HLX:=Q0 hlex;have HD:=Q0 hd;clear hlex hd HLEX
    go_wp2_with fail
    refine (next_any b0 s k _ (by omega) (by omega) (by omega) (by omega) HSR.out).mono ?_
    rintro e w3 ⟨rfl,hb3⟩;rw [Q7];have hw:=Lx.qg5 (s.data.toList.drop k);unfold Lx.Fits at hw;rw [Q6,← q0r] at hw;have h1:=Lx.lexAt_full f l k s[k] (s.data.toList.drop (k+1));have h2:=Lx.lexAt_err f l k s[k] (s.data.toList.drop (k+1));have h3:=Lx.lexAt_tok f l k s[k] (s.data.toList.drop (k+1));have hlx:=HLX.out;rw [← HD.out] at h1 h2 h3 hlx;obtain ⟨q,hq,hq2⟩:∃ q:Int,(Lx.scan (s.data.toList.drop k)).out k=.agg #[.int .i64 (Lx.scan (s.data.toList.drop k)).kind,.int .i64 q,.int .i64 (Lx.scan (s.data.toList.drop k)).n,.string (bs (Lx.scan (s.data.toList.drop k)).text)] ∧
      ((Lx.scan (s.data.toList.drop k)).err=0→q=k):=⟨_,rfl,λh=>by rw [if_pos h]⟩
    rw [hq];clear hq HLX HD;generalize Lx.scan (s.data.toList.drop k)=r at *
    obtain ⟨err,kind,n,text,width⟩:=r;simp only [] at hw h1 h2 h3 hq2;simp only [Lx.Sc.fin];by_cases he:err=0
    ·subst he
     rw [if_pos rfl];obtain rfl:=hq2 rfl;obtain ⟨hw1,hw2⟩:=hw rfl;by_cases hfull:l.length=5000
     ·have hfin:=h1 rfl hfull
      rw [hlx] at hfin;have HFIN:=Q0 hfin;have hfull':((l.length:Int)==5000)=true:=by rw [beq_iff_eq];omega
      clear hfin hlx h1 h2 h3 hfull;have HB3:=Q0 hb3;clear hb3
      go_wp2
      go_ret3
      refine ⟨.slice none 0 0,?_,?_,?_⟩
      ·rw [HFIN.out];rfl
      ·rw [HFIN.out];exact ⟨rfl,.inl ⟨rfl,rfl⟩⟩
      ·exact HW0.out.trans ((HBR.out.trans ((q0g HB3.out _).mono hszr)).mono HW0.out.size)
     ·have hfin:=h3 rfl hfull
      rw [hlx] at hfin;have HFIN:=Q0 hfin;have hfull':((l.length:Int)==5000)=false:=by rw [beq_eq_false_iff_ne];omega
      have hlenb:l.length+1≤5000:=by omega
      clear hfin hlx h1 h2 h3 hfull;have HB3:=Q0 hb3;clear hb3;obtain ⟨i0,hi0,hz0,hz1,hz2⟩:=info_parts info_tok;have hub:∀ u∈[Qd .i64 kind,.int .i64 k,.int .i64 n,.string (bs text)],u.oneCell'=true:=by simp [QW]
      have HUB:=Q0 hub;clear hub;have hb3z:=HB3.out.size
      go_wp2_with (first | (at_builtin;refine wpList_append_own _ rfl _ _ 150 rfl W0.heap.size 154 i0 (.agg #[.int .i64 0,.int .i64 0,.int .i64 0,.string { data:=#[] }]) 4 40 Tryz.underlying150 hi0 hz0 hz1 hz2 rfl (by decide) _ l.length (q5n l) rfl (q88 (q88 (q88 HOWN.out HB3.out) (q0g (q06 w3) _)) (q0g (q06 _) _)) ⟨w3.heap.size+1,0,none⟩ 1 1 [.int .i64 kind,.int .i64 k,.int .i64 n,.string (bs text)] rfl rfl (by exact cells_new _ [.int .i64 kind,.int .i64 k,.int .i64 n,.string (bs text)] _ _ (by simp)) HUB.out (by unfold maxLen;omega) (by omega) (by simp;omega) ?_;intro v' w4 hown4 hg4 _))
      obtain ⟨A',c',rfl⟩:=qcs hown4;have hbel4:Below W0.heap.size W0 w4:=(HBR.out.trans (HB3.out.mono hszr)).trans ((((q06 w3).alloc (Q4 _) _).alloc (by simp) _).mono (by omega)) |>.grown hg4 (by simp;omega) (q1u HOWN.out)
      have hS4:=HS0.out.below hbel4 hlt0;have hz4:=hbel4.size;have HBEL4:=Q0 hbel4;have HOWN4:=Q0 hown4;clear hbel4 hown4 hg4;refine (gap_any b0 s _ _ (by omega) (by omega) (by omega) (by omega) hS4).mono ?_
      rintro e w5 ⟨rfl,hb5⟩;rw [show ((k:Int)+(width:Int)).toNat=k+width from by omega]
      have hgl:=Lx.gap_le (s.data.toList.drop (k+width));rw [Q6,← q0r] at hgl;have hfin:=HFIN.out;rw [QD,QD] at hfin;have HFIN2:=Q0 hfin;clear hfin HFIN;generalize Lx.gap (s.data.toList.drop (k+width))=gg at *
      have HB5:=Q0 hb5;clear hb5 hS4
      go_wp2
      go_roundw
      case rel =>
       refine ⟨⟨A',c',k+width+gg,f,l++[Lx.Sc.tok ⟨0,kind,n,text,width⟩ k],?_,by go_num,by omega,?_,?_,by omega,?_⟩,HBEL4.out.trans (HB5.out.mono hz4)⟩
       ·rw [Q9];rfl
       ·rw [Q9];exact hlenb
       ·have h5:=q88 HOWN4.out HB5.out
        rw [qlu,Q9];exact h5
       ·rw [← HFIN2.out]
      case measure=>simp [intOf];omega
    ·rw [if_neg he]
     have hfin:=h2 he;rw [hlx] at hfin;have HFIN:=Q0 hfin;have he':(err==0)=false:=by rw [beq_eq_false_iff_ne];exact he
     have he'':(err != 0)=true:=by rw [bne_iff_ne];exact he
     clear hfin hlx h1 h2 h3 he hw hq2;have HB3:=Q0 hb3;clear hb3
     go_wp2
     go_ret3
     refine ⟨.slice none 0 0,?_,?_,?_⟩
     ·rw [HFIN.out];rfl
     ·rw [HFIN.out];exact ⟨rfl,.inl ⟨rfl,rfl⟩⟩
     ·exact HW0.out.trans ((HBR.out.trans ((q0g HB3.out _).mono hszr)).mono HW0.out.size)
   ·have hk2:k=s.size:=by omega
    have hd:s.data.toList.drop k=[]:=Qe (by rw [← q0r];omega)
    have hfin:=HLEX.out;rw [hd,Lx.lexAt_nil] at hfin;have HFIN:=Q0 hfin;clear hfin hd HLEX;have HK2:=Q0 hk2;clear hk2
    go_wp2
    go_ret3
    refine ⟨.slice A l.length c,?_,?_,HW0.out.trans (HBR.out.mono HW0.out.size)⟩
    ·rw [← HFIN.out];rfl
    ·rw [← HFIN.out]
     exact q8i HOWN.out HW0.out.size
end Go.Proofs.YtlfaaoalgcbcoaaGreatDoor
namespace Go.Proofs.YtlfaaoalgcbcoaaGreatDoor
open Go.RowKit R
theorem one_arg {κ:Cx} {w:World} {a:Comp} {vs:List Value} (h:q0e κ w [a] vs):∃ x,vs=[x]∧a.Rep κ w x:=by
 match vs,h with
 | [x],h =>
  obtain ⟨u,hu,hr⟩:=h.2 0 _ rfl;injection hu with hu;have hu:x=u:=hu;subst hu;exact ⟨_,rfl,hr⟩
theorem two_args {κ:Cx} {w:World} {a b:Comp} {vs:List Value} (h:q0e κ w [a,b] vs):∃ x y,vs=[x,y]∧a.Rep κ w x∧b.Rep κ w y:=by
 match vs,h with
 | [x,y],h =>
  obtain ⟨u,hu,hr⟩:=h.2 0 _ rfl;obtain ⟨u',hu',hr'⟩:=h.2 1 _ rfl;injection hu with hu;injection hu' with hu';have hu:x=u:=hu;have hu':y=u':=hu';subst hu;subst hu';exact ⟨_,_,rfl,hr,hr'⟩
theorem qmp {κ:Cx} {w:World} {a b c:Comp} {vs:List Value} (h:q0e κ w [a,b,c] vs):∃ x y z,vs=[x,y,z]∧a.Rep κ w x∧b.Rep κ w y∧c.Rep κ w z:=by
 match vs,h with
 | [x,y,z],h =>
  obtain ⟨u,hu,hr⟩:=h.2 0 _ rfl;obtain ⟨u',hu',hr'⟩:=h.2 1 _ rfl;obtain ⟨u'',hu'',hr''⟩:=h.2 2 _ rfl;injection hu with hu;injection hu' with hu';injection hu'' with hu'';have hu:x=u:=hu;have hu':y=u':=hu';have hu'':z=u'':=hu'';subst hu;subst hu';subst hu'';exact ⟨_,_,_,rfl,hr,hr',hr''⟩
theorem let_holds:cLet.Holds Tryz.prog:=by
 refine ⟨⟨⟨_,Tryz.func110,by kernel_rfl,by kernel_rfl⟩,λF' hF p r hr=>by injection hF with hF;subst hF;exact hr⟩,λp vs w S hS hp hvs=>?_⟩
 obtain ⟨s,lo,hi⟩:=p;obtain ⟨v,v2,v3,rfl,hv,hv2,hv3⟩:=qmp hvs;obtain rfl:v=.string (bs s):=hv;obtain rfl:v2=.int .i64 lo:=hv2;obtain rfl:v3=.int .i64 hi:=hv3;refine (qfz s lo hi w hp).mono ?_;rintro e w' ⟨rfl,hbl⟩;exact ⟨Snd.q0b s lo hi,_,rfl,rfl,rfl,hbl⟩
theorem tok_at (l:List Lx.Tok) (i:Nat) (t:Lx.Tok) (h:l[i]? = some t) (r:Nat) (hr:r<4):(q5n l)[i*4+r]? = t.cells[r]? := by
 induction l generalizing i with
 | nil=>simp at h
 | cons x l ih =>
  have e:q5n (x::l)=x.cells++q5n l:=rfl;have hl:x.cells.length=4:=rfl;rw [e];cases i with
  | zero =>
   injection h with h;subst h;rw [Nat.zero_mul,QI,List.getElem?_append_left (by omega)]
  | succ i =>
   rw [List.getElem?_append_right (by omega),hl,show (i+1)*4+r-4=i*4+r by omega]
   exact ih i h
section
variable {S:Nat→Prop} {w:World} {v:Value}
theorem tok_row {base:Nat} {l:List Lx.Tok} (h:TokRow w base v l) (hS:∀ g,base≤g→g<w.heap.size→S g):Kd.Rep w S (.sl kTok) (l.map tokP) v:=by
 have hlen:(l.map tokP).length=l.length:=QT ..;rcases h.2 with ⟨rfl,h0⟩ | ⟨g,cap,cur,rfl,hb,hg,hc,_,hsz,ht⟩
 ·refine ⟨none,0,by rw [hlen,h0],by rw [hlen,h0];exact Q4 _,λhl=>?_⟩
  rw [hlen] at hl;omega
 ·have hlt:g<w.heap.size:=by
   rcases Qp g w.heap.size with h' | h'
   ·exact h'
   ·rw [Array.getElem?_eq_none h'] at hg;cases hg
  refine ⟨_,cap,by rw [hlen],by rw [hlen];exact hc,λhl=>⟨g,0,rfl,hlt,hS g hb hlt,λi x hx=>?_⟩⟩
  have hx:(l.map tokP)[i]? = some x:=hx;rw [Qf] at hx;cases ht':l[i]? with
  | none=>rw [ht'] at hx;cases hx
  | some t =>
   rw [ht'] at hx;injection hx with hx;subst hx;have hil:i<l.length:=(List.getElem?_eq_some_iff.1 ht').1;have key:∀ r u,r<4→t.cells[r]? = some u→w.cell? ⟨g,0+i*4+r,none⟩=some u:=λr u hr hu=>by
    have h1:=tok_at l i t ht' r hr;rw [hu,← ht,QJ,if_pos (by omega),Array.getElem?_toList] at h1
    rw [QI];unfold World.cell?;simp [hg,h1]
   exact ⟨⟨_,key 0 _ (by omega) rfl,rfl⟩,⟨_,key 1 _ (by omega) rfl,rfl⟩,⟨_,key 2 _ (by omega) rfl,rfl⟩,⟨_,key 3 _ (by omega) rfl,rfl⟩⟩
end
theorem lex_holds:cLex.Holds Tryz.prog:=by
 refine ⟨⟨⟨_,Tryz.func102,by kernel_rfl,by kernel_rfl⟩,λF' hF p r hr=>by injection hF with hF;subst hF;exact hr⟩,λs0 vs w S hS hp hvs=>?_⟩
 obtain ⟨v,rfl,hv⟩:=one_arg hvs;obtain ⟨s,rfl⟩:∃ s:List UInt8,s=s0:=⟨s0,rfl⟩;obtain rfl:v=.string (bs s):=hv;have hp:s.length≤1000:=hp;have hsz:(bs s).size≤9223372036854775807:=by rw [qer];omega
 refine (lex_any (bs s) w hsz).mono ?_;rintro e w' ⟨v,rfl,hrow,hbl⟩;have hrow:TokRow w' w.heap.size v (Lx.lex s).1:=hrow;refine ⟨lexP s,_,rfl,rfl,⟨_,rfl,rfl,?_⟩,hbl⟩;have hr:=tok_row (S:=λg=>S g∨(w.heap.size≤g∧g<w'.heap.size)) hrow (λg h1 h2=>.inr ⟨h1,h2⟩)
 intro i x hx
 match i,hx with
 | 0,hx=>injection hx with hx;subst hx;exact ⟨_,rfl,hr⟩
 | 1,hx=>injection hx with hx;subst hx;exact ⟨_,rfl,rfl⟩
 | 2,hx=>injection hx with hx;subst hx;exact ⟨_,rfl,rfl⟩
set_option maxRecDepth 100000 in
theorem fewC_holds:cFewC.Holds Tryz.prog:=by
 refine q0s (cons:=[]) Tryz.func66 (by kernel_rfl) (by kernel_rfl) mixed (by kernel_rfl) (λc h=>by cases h) anFewC λp hp=>?_
 refine cast ?_ (fewC_vc p hp)
 kernel_rfl
set_option maxRecDepth 100000 in
theorem fewW_holds:cFewW.Holds Tryz.prog:=by
 refine q0s (cons:=[]) Tryz.func65 (by kernel_rfl) (by kernel_rfl) mixed (by kernel_rfl) (λc h=>by cases h) (λp=>anFewW p.2) λp hp=>?_
 obtain ⟨lang,ws⟩:=p;refine cast ?_ (fewW_vc lang ws hp)
 kernel_rfl
set_option maxRecDepth 100000 in
theorem q7v:qeh.Holds Tryz.prog:=by
 refine q0s (cons:=[cLex,cLet]) Tryz.func62 (by kernel_rfl) (by kernel_rfl) mixed (by kernel_rfl) (λc h=>by
  rcases List.mem_cons.1 h with rfl | h
  ·exact lex_holds
  ·obtain rfl:=List.mem_singleton.1 h;exact let_holds) (λp=>anValid p.2) λp hp=>?_
 obtain ⟨lang,ws⟩:=p;refine cast ?_ (valid_vc lang ws hp)
 kernel_rfl
set_option maxRecDepth 100000 in
theorem on_holds:cOn.Holds Tryz.prog:=by
 refine q0s (cons:=[]) Tryz.func30 (by kernel_rfl) (by kernel_rfl) mixed (by kernel_rfl) all_nil (λ_=>[]) λp hp=>?_
 obtain ⟨x,y⟩:=p;refine cast ?_ (on_vc x y)
 kernel_rfl
set_option maxRecDepth 100000 in
theorem onL_holds:cOnL.Holds Tryz.prog:=by
 refine q0s (cons:=[cOn]) Tryz.func81 (by kernel_rfl) (by kernel_rfl) mixed (by kernel_rfl) (all_cons on_holds all_nil) (λp=>anOnL p) λp hp=>?_
 refine cast ?_ (onL_vc p hp)
 kernel_rfl
set_option maxRecDepth 100000 in
theorem from_holds:cFrom.Holds Tryz.prog:=by
 refine q0s (cons:=[]) Tryz.func82 (by kernel_rfl) (by kernel_rfl) mixed (by kernel_rfl) all_nil (λ_=>[]) λp hp=>?_
 obtain ⟨⟨a,b⟩,c,d⟩:=p;refine cast ?_ (from_vc a b c d hp)
 kernel_rfl
set_option maxRecDepth 100000 in
theorem along_holds:cAlong.Holds Tryz.prog:=by
 refine q0s (cons:=[]) Tryz.func83 (by kernel_rfl) (by kernel_rfl) mixed (by kernel_rfl) all_nil (λ_=>[]) λp hp=>?_
 obtain ⟨⟨a,b⟩,c,d⟩:=p;refine cast ?_ (along_vc a b c d hp)
 kernel_rfl
set_option maxRecDepth 100000 in
theorem dist_holds:cDist.Holds Tryz.prog:=by
 refine q0s (cons:=[cOnL,cFrom,cAlong]) Tryz.func32 (by kernel_rfl) (by kernel_rfl) mixed (by kernel_rfl) (all_cons onL_holds (all_cons from_holds (all_cons along_holds all_nil))) (λ_=>[]) λp hp=>?_
 obtain ⟨⟨a,b⟩,c,d⟩:=p;refine cast ?_ (dist_vc a b c d)
 kernel_rfl
set_option maxRecDepth 100000 in
theorem qk5:cNearG.Holds Tryz.prog:=by
 refine q0s (cons:=[cDist]) Tryz.func105 (by kernel_rfl) (by kernel_rfl) mixed (by kernel_rfl) (all_cons dist_holds all_nil) (λ_=>[]) λp hp=>?_
 obtain ⟨⟨d1,c1,p1,x1,y1⟩,d2,c2,p2,x2,y2⟩:=p;refine cast ?_ (nearG_vc d1 d2 c1 c2 p1 p2 x1 y1 x2 y2)
 kernel_rfl
set_option maxRecDepth 100000 in
theorem qho:cPlaced.Holds Tryz.prog:=by
 refine q0s (cons:=[cOn]) Tryz.func51 (by kernel_rfl) (by kernel_rfl) mixed (by kernel_rfl) (all_cons on_holds all_nil) (λ_=>[]) λp hp=>?_
 obtain ⟨d1,c1,p1,x1,y1⟩:=p;refine cast ?_ (placed_vc d1 c1 p1 x1 y1)
 kernel_rfl
theorem kitCV_ok:kitCV.Ok Tryz.prog where
 cons:=all_cons q7v all_nil
 ns:=all_nil
 os:=all_nil
 fcs:=all_nil
 rcs:=all_nil
 inls:=q0l.more Tryz.func63 (by kernel_rfl) (by kernel_rfl) (q0l.more Tryz.func111 (by kernel_rfl) (by kernel_rfl) (q0l.more Tryz.func61 (by kernel_rfl) (by kernel_rfl) q0l.nil))
set_option maxRecDepth 100000 in
theorem q5t:q8l.Holds Tryz.prog:=by
 refine holdsX (T:=kitCV) (λp=>anIdx p.1.2.length p.2) Tryz.func20 (by kernel_rfl) (by kernel_rfl) mixed (by kernel_rfl) kitCV_ok (λ_=>[]) λp hp=>?_
 obtain ⟨⟨lang,ws⟩,code⟩:=p;refine cast ?_ (cvalid_vc lang ws code hp)
 kernel_rfl
theorem key_holds:cKey.Holds Tryz.prog:=by
 refine ⟨⟨⟨_,Tryz.func103,by kernel_rfl,by kernel_rfl⟩,λF' h p r hr=>by injection h with h;subst h;exact hr⟩,λp vs w S hS hpre hvs=>?_⟩
 obtain ⟨v,rfl,hv⟩:=q2b hvs;obtain ⟨A,c,rfl,hc,hrow⟩:=hv;obtain ⟨p,rfl⟩:∃ q:List Int,q=p:=⟨p,rfl⟩;refine (key_walk p c A w (λhp=>?_)).mono ?_
 ·obtain ⟨g,off,rfl,hg,hSg,hrow⟩:=hrow hp
  refine ⟨_,rfl,hg,λj v hj=>?_⟩
  rw [Qf] at hj;cases hx:(List.take 5 p)[j]? with
  | none=>rw [hx] at hj;cases hj
  | some x =>
   rw [hx] at hj;injection hj with hj;subst hj;have hx':p[j]? = some x:=by
    rw [QJ] at hx;split at hx
    ·exact hx
    ·cases hx
   obtain ⟨u,hu,hr⟩:=hrow j x hx';have hr:u=.int .i64 x:=hr;subst hr;rw [add_pl'];have e:off+j*(Kds.one (Kd.int IntKind.i64)).size=off+j:=by show off+j*1=_;rw [Nat.mul_one]
   rw [e] at hu;exact hu
 ·rintro e w' ⟨rfl,hbl⟩
  refine ⟨Cod.key p,_,rfl,rfl,⟨_,rfl,⟨rfl,λi c hi=>?_,λi v hi=>?_⟩⟩,hbl⟩
  ·match i with
   | 0=>injection hi with hi;subst hi;exact ⟨_,rfl,rfl⟩
   | 1=>injection hi with hi;subst hi;exact ⟨_,rfl,rfl⟩
   | 2=>injection hi with hi;subst hi;exact ⟨_,rfl,rfl⟩
   | 3=>injection hi with hi;subst hi;exact ⟨_,rfl,rfl⟩
   | 4=>injection hi with hi;subst hi;exact ⟨_,rfl,rfl⟩
   | 5=>injection hi with hi;subst hi;exact ⟨_,rfl,rfl⟩
   | n+6=>cases hi
  ·match i with
   | 0=>injection hi with hi;subst hi;rfl
   | 1=>injection hi with hi;subst hi;rfl
   | 2=>injection hi with hi;subst hi;rfl
   | 3=>injection hi with hi;subst hi;rfl
   | 4=>injection hi with hi;subst hi;rfl
   | 5=>injection hi with hi;subst hi;rfl
   | n+6=>cases hi
abbrev kI:Kds:=.one (.int .i64)
def nClone:NCon:={ f:=91,args:=[q2h],e:=3,fs:=kI,pre:=λl _=>List.length l≤1000000,F:=λl _=>l }
def qiw:OCon:={ f:=93,e:=3,fs:=kI,args:=[q57,q57],ret:=true,pre:=λxs p _=>p.2=p.1+1∧0≤p.1∧p.1<(List.length xs:Int),F:=λxs p _=>List.eraseIdx xs p.1.toNat }
section
variable {κ:Cx} {w:World}
theorem rowCells_map {k:Kd} {enc:k.Pay→Value} {xs:List k.Pay} {cells:List Value} (hk:∀ p v,k.Rep w κ.S p v→v=enc p) (h:q0d κ w (.one k) xs cells) (hl:cells.length=xs.length):cells=xs.map enc:=by
 apply List.ext_getElem?
 intro i;rw [Qf];cases hx:xs[i]? with
 | none =>
  have:xs.length≤i:=List.getElem?_eq_none_iff.1 hx
  rw [Qm (by omega)];rfl
 | some x =>
  obtain ⟨u,hu,hr⟩:=h i x hx 0 ⟨k,x⟩ rfl;have e:i*(Kds.one k).size+0=i:=by show i*1+0=i;omega
  rw [e] at hu;rw [hu,hk x u hr];rfl
theorem qdm {k:Kd} {enc:k.Pay→Value} (xs:List k.Pay) (hk:∀ p,k.Rep w κ.S p (enc p)):q0d κ w (.one k) xs (xs.map enc):=λi x hx f z hz=>by
 cases f with
 | succ f=>cases hz
 | zero =>
  injection hz with hz;subst hz;refine ⟨enc x,?_,hk x⟩;have e:i*(Kds.one k).size+0=i:=by show i*1+0=i;omega
  rw [e,Qf,hx];rfl
theorem data_ints {S:Nat→Prop} {l:List Int} {A:Option Addr} (hrow:0<l.length→∃ g off,A=some ⟨g,off,none⟩∧g<w.heap.size∧S g∧∀ (i:Nat) (x:Int),l[i]? = some x→kI.Rep w S x g (off+i*kI.size)) (hp:0<l.length) :
  ∃ g off,A=some ⟨g,off,none⟩∧g<w.heap.size∧∀ j,j<l.length→w.cell? ⟨g,off+j,none⟩=some (.int .i64 (l.getD j 0)):=by
 obtain ⟨g,off,e,hg,_,h⟩:=hrow hp;refine ⟨g,off,e,hg,λj hj=>?_⟩
 obtain ⟨u,hu,hr⟩:=h j _ (Qg hj);have hr:u=.int .i64 l[j]:=hr;have e:off+j*kI.size=off+j:=by show off+j*1=_;omega
 rw [e] at hu;rw [hu,hr,List.getD_eq_getElem?_getD,Qg hj];rfl
end
theorem qdu:nClone.Holds Tryz.prog:=by
 refine ⟨⟨_,Tryz.func91,by kernel_rfl,by kernel_rfl⟩,λp b vs fvs w S hS hpre hvs hfa=>?_⟩
 have hfa:fvs=[]:=hfa;subst hfa;obtain ⟨v,rfl,hv⟩:=q2b hvs;obtain ⟨A,c,rfl,hc,hrow⟩:=hv;obtain ⟨p,rfl⟩:∃ q:List Int,q=p:=⟨p,rfl⟩;have hpre:p.length≤1000000:=hpre;have fin:∀ (u:Value) (w':World),w'.ownsRow w.heap.size 3 1 u p.length (p.map (Qd .i64))→Below w.heap.size w w'→Below w.heap.size w w'∧∃ u' cells,QQ u=.returned u'∧w'.ownsRow w.heap.size 3 1 u' p.length cells∧q0d (Cx.of S) w kI p cells:=λu w' ho hb =>
  ⟨hb,u,_,rfl,ho,qdm (k:=.int .i64) (enc:=Qd .i64) p (λx=>rfl)⟩
 by_cases h0:p.length=0
 ·obtain rfl:=List.eq_nil_of_length_eq_zero h0
  cases A with
  | none =>
   refine (Tryz.slices_Clone_int_nil 0 c w).mono ?_;rintro e w' ⟨rfl,rfl⟩;exact fin _ _ (World.ownsRow_nil _ _ _ _) (Qh _ _)
  | some ad =>
   refine (Tryz.slices_Clone_int_zero ad c w).mono ?_;rintro e w' ⟨v',rfl,ho,_,hb⟩;exact fin _ _ ho hb
 ·obtain ⟨g,off,rfl,hg,hcells⟩:=data_ints hrow (by omega)
  refine (Tryz.slices_Clone_int g off p.length c p w (Q4 _) (by omega) hcells).mono ?_
  rintro e w' ⟨v',rfl,ho,_,hb⟩;rw [List.take_length] at ho;exact fin _ _ ho hb
theorem eraseIdx_cut (l:List Int) (i:Nat) (h:i<l.length):(l.take i++l.drop (i+1)++QY (i+1-i) 0).take (l.length-(i+1-i))=l.eraseIdx i:=by
 rw [List.eraseIdx_eq_take_drop_succ,List.take_append_of_le_length (by rw [Q9,Ql,Q6];omega),Qa (by rw [Q9,Ql,Q6];omega)]
theorem qch:qiw.Holds Tryz.prog:=by
 refine ⟨⟨_,Tryz.func93,by kernel_rfl,by kernel_rfl⟩,λxs p b v cells vs fvs w n0 S hn0 hS hvS hown hcells hpre hvs hfa _=>?_⟩
 have hfa:fvs=[]:=hfa;subst hfa;obtain ⟨⟨i,j⟩,rfl⟩:∃ q:Int×Int,q=p:=⟨p,rfl⟩;obtain ⟨xs,rfl⟩:∃ q:List Int,q=xs:=⟨xs,rfl⟩;have hpre:j=i+1∧0≤i∧i<(xs.length:Int):=hpre;obtain ⟨rfl,hi0,hil⟩:=hpre;have hvs2:vs=[.int .i64 i,.int .i64 (i+1)]:=by
  obtain ⟨h1,h2⟩:=hvs;obtain ⟨u0,e0,r0⟩:=h2 0 _ rfl;obtain ⟨u1,e1,r1⟩:=h2 1 _ rfl;have r0:u0=.int .i64 i:=r0;have r1:u1=.int .i64 (i+1):=r1
  match vs,h1 with
  | [a,b],_ =>
   injection e0 with e0;injection e1 with e1;rw [e0,e1,r0,r1]
 subst hvs2;have hcm:cells=xs.map (Qd .i64):=rowCells_map (k:=.int .i64) (enc:=Qd .i64) (λp v h=>h) hcells (by have:=hown.1;rw [this];exact Nat.mul_one _)
 subst hcm;have hown1:w.ownsRow n0 3 1 v xs.length (xs.map (Qd .i64)):=hown;have hnn:v≠.slice none 0 0:=λe=>by
  rcases hown1.2 with ⟨_,h0⟩ | ⟨g,cap,cur,h,_⟩
  ·rw [h0] at hil;omega
  ·rw [h] at e;cases e
 obtain ⟨g,cap,rfl,hg1,hg2,hc1,hc2,_,hH⟩:=Lib.holds_of_ownsRow hown1 hnn;obtain ⟨k,rfl⟩:=Qk hi0;have hk:k<xs.length:=by omega
 have hcap:cap≤9223372036854775807:=by unfold maxLen at hc2;omega
 have e1:((k:Int)+1)=((k+1:Nat):Int):=by omega
 rw [e1];refine (Tryz.slices_Delete_int g 0 cap k (k+1) xs w hH (by omega) hcap (Nat.le_succ _) (by omega)).mono ?_
 rintro e w' ⟨rfl,q,rfl⟩;have hrow:=Lib.ownsRow_putRow (q:=q) (k:=xs.length-(k+1-k)) (ys:=xs.take k++xs.drop (k+1)++QY (k+1-k) 0) hown1 (by rw [Q9,Q9,Ql,Q6,List.length_replicate];omega) (by omega)
 rw [eraseIdx_cut xs k hk] at hrow;refine ⟨?_,_,(xs.eraseIdx k).map (Qd .i64),rfl,?_,qdm (k:=.int .i64) (enc:=Qd .i64) _ (λx=>rfl),λ_ g' hg'=>.inl hg',λh=>by cases h⟩
 ·exact ⟨rfl,rfl,rfl,by simp [Sort.putRow,Sort.mapBlock,Sort.ahead],λk' hk' hne=>by
   have:g≠k':=λe=>hne (by rw [← e];rfl)
   simp [Sort.putRow,Sort.mapBlock,Sort.ahead,Qb,this]⟩
 ·have hl:(xs.eraseIdx k).length=xs.length-(k+1-k):=by rw [List.length_eraseIdx_of_lt hk];omega
  show World.ownsRow _ _ _ _ _ (xs.eraseIdx k).length _;rw [hl];exact hrow
set_option maxRecDepth 100000 in
theorem name_vc (s:List UInt8) (h:qil.pre s) :
    s.length≤(1000:Nat)∧bif (Lx.lex s).snd.fst==(0:Int) then bif (↑(QE tokP (Lx.lex s).fst).length:Int)==(1:Int) then ((0:Int)≤(0:Int)∧(0:Int)<(↑(QE tokP
    (Lx.lex s).fst).length:Int))∧bif ((QE tokP (Lx.lex s).fst).getD (Int.toNat (0:Int)) ((0:Int),(0:Int),(0:Int),[])).fst==(1:Int) then ((0:Int)≤(0:Int)∧(0 :
    Int)<(↑(QE tokP (Lx.lex s).fst).length:Int))∧(((QE tokP (Lx.lex s).fst).getD (Int.toNat (0:Int)) ((0:Int),(0:Int),(0:Int),[])).snd.snd.snd==s)=Lx.q0v s
    else false=Lx.q0v s else false=Lx.q0v s else false=Lx.q0v s
     := by
  have h1000:s.length≤1000:=h;have hyes:=Lx.lex_name s (by omega)
  have hno:∀ (t:Lx.Tok) (e a:Int),Lx.lex s=([t],e,a)→e=0→t.kind=1→t.text=s→Lx.q0v s=true:=λt e a=>Lx.name_lex s (by omega)
  have nam:(Lx.q0v s=true→False)→false=Lx.q0v s:=λh=>by
    cases hh:Lx.q0v s
    · rfl
    · exact (h hh).elim
  generalize Lx.lex s=L at *
  obtain ⟨l,er,a⟩:=L;dsimp only at *
  refine ⟨by omega,bifP (λhe=>bifP (λhl=>?_) λhl=>nam λhh=>?_) λhe=>nam λhh=>?_⟩
  · obtain ⟨t,rfl⟩:∃ t,l=[t]:=by
      have:((l.map tokP).length:Int)=1:=beq_iff_eq.1 hl
      rw [QT] at this;exact List.length_eq_one_iff.1 (by omega)
    have he:er=0:=beq_iff_eq.1 he;refine ⟨⟨by omega,by show (0:Int)<1;omega⟩,bifP (λhk=>⟨⟨by omega,by show (0:Int)<1;omega⟩,?_⟩) λhk=>nam λhh=>?_⟩
    · have hk:t.kind=1:=beq_iff_eq.1 hk
      show (t.text==s)=Lx.q0v s;by_cases ht:t.text=s
      · rw [hno t er a rfl he hk ht];exact beq_iff_eq.2 ht
      · rw [beq_eq_false_iff_ne.2 ht]
        refine nam λhh=>ht ?_
        have:=hyes hh
        simp at this;rw [this.1]
    · have:=hyes hh
      simp at this;exact (beq_eq_false_iff_ne.1 hk) (by show t.kind=1;rw [this.1])
  · have:=hyes hh
    simp at this;rw [this.1] at hl;exact (beq_eq_false_iff_ne.1 hl) rfl
  · have:=hyes hh
    simp at this;exact (beq_eq_false_iff_ne.1 he) this.2.1
set_option maxRecDepth 100000 in
theorem qlk:qil.Holds Tryz.prog:=by
 refine q0s (cons:=[cLex]) Tryz.func50 (by kernel_rfl) (by kernel_rfl) mixed (by kernel_rfl) (all_cons lex_holds all_nil) (λ_=>[]) λp hp=>?_
 refine cast ?_ (name_vc p hp)
 kernel_rfl
end Go.Proofs.YtlfaaoalgcbcoaaGreatDoor
namespace Go.Proofs.YtlfaaoalgcbcoaaGreatDoor
open Go.RowKit
namespace R
def keepE (ks:List Nat) (l:List (Nat×AV)):List (Nat×AV):=ks.map λt=>(t,look (.c (.one .any)) t l)
def keepB:List Nat→List (Nat×List Cell)→List (Nat×List Cell)
 | [],_=>[]
 | b::r,l=>match look? b l with
  | some cs=>(b,cs)::keepB r l
  | none=>keepB r l
structure Keep where
 live:List Nat
 sav:List Nat
 box:List Nat
 lp:List Nat:=[]
def St.hd (st:St) (K:Keep) (over:List (Nat×AV)) (bover:List (Nat×List Cell)) (rows:List (Nat×Row)) (maps:List (Nat×MRow)) (fam:Option FRow):St :=
 {n:=st.n,env:=over++keepE K.live st.env,boxes:=bover++keepB K.box st.boxes,rows:=rows,sav:=keepE K.sav st.sav,maps:=maps,off:=st.off,nest:=none,iters:=[],fam:=fam,lps:=st.lps.map λL=>{ L with env:=keepE K.lp L.env } }
def annG (l:Nat) (ι:Type) (at_:St→ι→St) (inv:ι→Prop) (mu:ι→Nat):Nat×Ann:=(l,{ ι:=ι,at_:=at_,inv:=λ_ p=>inv p,mu:=λ_ p=>mu p })
def cutG (id:Nat) (ι:Type) (at_:St→ι→St) (inv:ι→Prop):Nat×Ann:=(2000000+id,{ ι:=ι,at_:=at_,inv:=λ_ p=>inv p,mu:=λ_ _=>0 })
end R
end Go.Proofs.YtlfaaoalgcbcoaaGreatDoor

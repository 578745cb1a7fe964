/-
  Several texts in one: LexNext2, LexClasses, LexNew, LexLex, SoD, CoD, CoE, R14X, CoF.
-/
import Derived.Test.YtfecgebhoondjaaGreatDoorPM
import Derived.WalkSmall
import Derived.Deep.WholeRow
import Derived.Lib.OwnBridge
import Derived.Test.YtfecgebhoondjaaGreatDoorPL
namespace Go.Proofs.YtfecgebhoondjaaGreatDoor
open Go.RowKit
attribute [local go_sem] q34 q21 q2d
theorem tok_block (w:World) (m:Nat) (w3:World) (hb3:Below (((w.alloc (.cells #[.int .i64 0,.int .i64 0,.int .i64 0,.string { data:=#[] }] 167)).drewN m).heap.size) ((w.alloc (.cells #[.int .i64 0,.int .i64 0,.int .i64 0,.string { data:=#[] }] 167)).drewN m) w3) :
  Below w.heap.size w w3∧Blk w3 w.heap.size 167 #[.int .i64 0,.int .i64 0,.int .i64 0,.string { data:=#[] }] :=
 ⟨q4c (q2k (q0e (q07 w) _) _) hb3,((Blk.new w _ _).drewN _).bel hb3⟩
set_option maxRecDepth 100000 in
set_option maxHeartbeats 2000000 in
theorem next_quote (b:Nat) (s:ByteArray) (i:Nat) (w:World) (hs:s.size≤20000) (hi:i<s.size) (hb:b<w.heap.size) (h:Scan w b s) (hc:Lx.cls s[i]=6) :
  Calls Tryz.prog 154 #[.pointer (some ⟨b,0,none⟩),.int .i64 i] w fun e w' =>
   e=.returned (.tuple #[(Lx.scan (s.data.toList.drop i)).out i,.int .i64 ((Lx.scan (s.data.toList.drop i)).fin i),.int .i64 (Lx.scan (s.data.toList.drop i)).err])∧Below w.heap.size w w':=by
 have hsc:=Lx.scan_quote s[i] (s.data.toList.drop (i+1)) hc
 have hd:=q4g s i hi
 rw [← hd] at hsc
 have hc0:Lx.q2a (s.data.toList.drop i)=6:=by rw [hd]; exact hc
 have HC:=Lib.hid hc0
 clear hc hc0 hd
 have h0:=h.text
 obtain ⟨R,hR⟩:∃ R,s.extract (i+1) s.size=R:=⟨_,rfl⟩
 have hRl:R.data.toList=s.data.toList.drop (i+1):=by
  rw [← hR,Lib.extract_data]
  exact List.take_of_length_le (by rw [List.length_drop,← q0t]; exact Nat.le_refl _)
 have hRs:R.size=s.size-(i+1):=by rw [q0t,hRl,List.length_drop,← q0t]
 have hRs':R.size≤20000:=by omega
 rw [← hRl] at hsc
 have HSC:=Lib.hid hsc; clear hsc
 have HRS:=Lib.hid hRs; clear hRs
 obtain ⟨hin1,hin2⟩:=Lx.indexAny_in R.data.toList
 have HIN1:=Lib.hid hin1
 have HIN2:=Lib.hid hin2
 clear hin1 hin2 hRl
 have hge:=Lib.indexAny_ge [34,10] R.data.toList
 go_enter Tryz.func154,Tryz.ntmps154
 go_wp2_with fail
 refine (q6g b s i _ (by omega) (by omega) (by exact h.alloc hb _)).mono ?_
 rintro e w' ⟨rfl,m1,rfl⟩
 rw [Int.toNat_natCast,HC.out]
 go_wp2_with fail
 refine (qmd R _ (by omega)).mono ?_
 rintro e w3 ⟨rfl,hb3⟩
 have hS3:Scan w3 b s:=((h.alloc hb _).drewN _).below hb3 (by simp; omega)
 obtain ⟨hbelow,hblk⟩:=tok_block w m1 w3 hb3
 have t0:=hS3.text
 have k0:=hblk.cell 0
 have k1:=hblk.cell 1
 have k2:=hblk.cell 2
 have k3:=hblk.cell 3
 have f0:=hblk.frozen 0
 have f1:=hblk.frozen 1
 have f2:=hblk.frozen 2
 have f3:=hblk.frozen 3
 have HB:=Lib.hid hbelow
 have HBLK:=Lib.hid hblk
 clear hb3 hbelow hblk hS3
 by_cases hneg:Lib.indexAny R.data.toList [34,10]<0
 ·have hh:=HIN1.out hneg
  have hsb:Lx.scan (s.data.toList.drop i)=Lx.bad 6:=by rw [HSC.out,hh]; rfl
  have HSB:=Lib.hid hsb
  clear hsb hh HSC HIN1 HIN2
  generalize Lib.indexAny R.data.toList [34,10]=o at *
  go_wp2
  refine bodyPost_ret (q1h rfl _ _ w.heap.size 167 _ _ rfl ((((HBLK.out.set_ 0 _).set_ 1 _).set_ 2 _).set_ 3 _) Tryz.underlying167 rfl (by kernel_rfl)) rfl ⟨?_,?_⟩
  ·rw [HSB.out]; rfl
  ·exact q1i (q1i (q1i (q1i HB.out (Nat.le_refl _) _) (Nat.le_refl _) _) (Nat.le_refl _) _) (Nat.le_refl _) _
 ·obtain ⟨p1,p2,p3⟩:=HIN2.out (by omega)
  rw [← q0t] at p2
  have HSC':=HSC.out
  generalize Lib.indexAny R.data.toList [34,10]=o at *
  obtain ⟨q,rfl⟩:=Int.eq_ofNat_of_zero_le (show 0≤o by omega)
  have p1':Lx.span Lx.q3t R.data.toList=q:=by simpa using p1
  rw [p1'] at p2 p3 HSC'
  have hget:=qcv R q p2
  rw [hget] at p3
  have hhd:(R.data.toList.drop q).head? = some R[q]:=by rw [List.head?_drop,hget]
  rw [hhd] at HSC'
  have HX:=q3p R 0 q
  rw [Nat.sub_zero,List.drop_zero] at HX
  clear p1 p1' HIN1 HIN2 hget hhd HSC
  by_cases h10:R[q]=10
  ·have hsb:Lx.scan (s.data.toList.drop i)=Lx.bad 6:=by rw [HSC',h10]; rfl
   have HSB:=Lib.hid hsb
   have h10':((R[q].toNat:Int)==10)=true:=by rw [h10]; rfl
   clear hsb HSC' h10 p3
   go_wp2
   refine bodyPost_ret (q1h rfl _ _ w.heap.size 167 _ _ rfl ((((HBLK.out.set_ 0 _).set_ 1 _).set_ 2 _).set_ 3 _) Tryz.underlying167 rfl (by kernel_rfl)) rfl ⟨?_,?_⟩
   ·rw [HSB.out]; rfl
   ·exact q1i (q1i (q1i (q1i HB.out (Nat.le_refl _) _) (Nat.le_refl _) _) (Nat.le_refl _) _) (Nat.le_refl _) _
  ·have h34:R[q]=34:=by
    rcases p3 with h | h
    ·injection h
    ·injection h with h; exact absurd h h10
   have h10':((R[q].toNat:Int)==10)=false:=by rw [h34]; rfl
   rw [h34] at HSC'
   rw [if_pos (beq_self_eq_true _)] at HSC'
   have HSC:=Lib.hid HSC'
   have HX':=Lib.hid HX
   clear HSC' h10 p3 h34
   by_cases h4:400<q
   ·have hsb:Lx.scan (s.data.toList.drop i)=Lx.bad 2:=by rw [HSC.out,if_pos h4]
    have HSB:=Lib.hid hsb
    clear hsb HSC
    go_wp2
    refine bodyPost_ret (q1h rfl _ _ w.heap.size 167 _ _ rfl ((((HBLK.out.set_ 0 _).set_ 1 _).set_ 2 _).set_ 3 _) Tryz.underlying167 rfl (by kernel_rfl)) rfl ⟨?_,?_⟩
    ·rw [HSB.out]; rfl
    ·exact q1i (q1i (q1i (q1i HB.out (Nat.le_refl _) _) (Nat.le_refl _) _) (Nat.le_refl _) _) (Nat.le_refl _) _
   ·have hsb:Lx.scan (s.data.toList.drop i)=⟨0,3,0,R.data.toList.take q,q+2⟩:=by rw [HSC.out,if_neg h4]
    have HSB:=Lib.hid hsb
    clear hsb HSC
    go_wp2
    refine bodyPost_ret (q1h rfl _ _ w.heap.size 167 _ _ rfl ((((HBLK.out.set_ 0 _).set_ 1 _).set_ 2 _).set_ 3 _) Tryz.underlying167 rfl (by kernel_rfl)) rfl ⟨?_,?_⟩
    ·rw [HSB.out]
     simp only [Lx.Sc.out,Lx.Sc.fin,if_true]
     rw [← Nat.add_assoc]
     rfl
    ·exact q1i (q1i (q1i (q1i HB.out (Nat.le_refl _) _) (Nat.le_refl _) _) (Nat.le_refl _) _) (Nat.le_refl _) _
set_option maxRecDepth 100000 in
set_option maxHeartbeats 2000000 in
theorem next_mark (b:Nat) (s:ByteArray) (i:Nat) (w:World) (hs:s.size≤20000) (hi:i<s.size) (hb:b<w.heap.size) (h:Scan w b s) (hc:Lx.cls s[i]=7) :
  Calls Tryz.prog 154 #[.pointer (some ⟨b,0,none⟩),.int .i64 i] w fun e w' =>
   e=.returned (.tuple #[(Lx.scan (s.data.toList.drop i)).out i,.int .i64 ((Lx.scan (s.data.toList.drop i)).fin i),.int .i64 (Lx.scan (s.data.toList.drop i)).err])∧Below w.heap.size w w':=by
 have hsc:=Lx.scan_mark s[i] (s.data.toList.drop (i+1)) hc
 have hd:=q4g s i hi
 rw [← hd] at hsc
 have hc0:Lx.q2a (s.data.toList.drop i)=7:=by rw [hd]; exact hc
 have HC:=Lib.hid hc0
 have h0:=h.text
 obtain ⟨R,hR⟩:∃ R,s.extract (i+1) s.size=R:=⟨_,rfl⟩
 have hRl:R.data.toList=s.data.toList.drop (i+1):=by
  rw [← hR,Lib.extract_data]
  exact List.take_of_length_le (by rw [List.length_drop,← q0t]; exact Nat.le_refl _)
 have hpre:Lib.hasPrefix R.data.toList [61]=((s.data.toList.drop (i+1)).head? == some 61):=by
  rw [hRl]
  cases s.data.toList.drop (i+1) with
  | nil=>rfl
  | cons c r =>
   simp only [Lib.hasPrefix,List.isPrefixOf,List.head?_cons,Bool.and_true]
   rw [Bool.eq_iff_iff]
   simp
   exact eq_comm
 have HPRE:=Lib.hid hpre
 clear hpre
 rcases Bool.eq_false_or_eq_true ((s.data.toList.drop (i+1)).head? == some 61) with hq | hq
 ·have hlt:i+1<s.size:=by
   rcases Nat.lt_or_ge (i+1) s.size with h1 | h1
   ·exact h1
   ·rw [List.drop_eq_nil_of_le (by rw [← q0t]; exact h1)] at hq; cases hq
  have hxt:s.extract i (i+2)=bs [s[i],61]:=by
   rw [q3p,show i+2-i=2 from by omega,hd]
   have h2:=q4g s (i+1) hlt
   rw [h2] at hq ⊢
   have h3:s[i+1]=61:=by simpa using hq
   rw [h3]
   rfl
  rw [if_pos hq] at hsc
  have HSC:=Lib.hid hsc
  have HXT:=Lib.hid hxt
  clear hsc hd hc hRl hc0
  go_enter Tryz.func154,Tryz.ntmps154
  go_wp2_with fail
  refine (q6g b s i _ (by omega) (by omega) (by exact h.alloc hb _)).mono ?_
  rintro e w' ⟨rfl,m1,rfl⟩
  rw [Int.toNat_natCast,HC.out]
  go_wp2_with fail
  refine (Tryz.strings_HasPrefix R _ _).mono ?_
  rintro e w' ⟨rfl,rfl⟩
  rw [show (({ data:=#[61] }:ByteArray).data.toList)=[61] from rfl,HPRE.out]
  rw [hq]
  clear hq
  go_wp2
  refine bodyPost_ret (q1h rfl _ _ w.heap.size 167 _ _ rfl (by exact (Blk.new w _ _).drewN _) Tryz.underlying167 rfl (by kernel_rfl)) rfl ⟨?_,?_⟩
  ·rw [HSC.out,HXT.out]; rfl
  ·exact q2k (q0e (q07 w) _) _
 ·rw [if_neg (by rw [hq]; decide)] at hsc
  have HSC:=Lib.hid hsc
  clear hsc hd hc hRl hc0
  go_enter Tryz.func154,Tryz.ntmps154
  go_wp2_with fail
  refine (q6g b s i _ (by omega) (by omega) (by exact h.alloc hb _)).mono ?_
  rintro e w' ⟨rfl,m1,rfl⟩
  rw [Int.toNat_natCast,HC.out]
  go_wp2_with fail
  refine (Tryz.strings_HasPrefix R _ _).mono ?_
  rintro e w' ⟨rfl,rfl⟩
  rw [show (({ data:=#[61] }:ByteArray).data.toList)=[61] from rfl,HPRE.out]
  rw [hq]
  clear hq
  go_wp2
  refine bodyPost_ret (q1h rfl _ _ w.heap.size 167 _ _ rfl (by exact (Blk.new w _ _).drewN _) Tryz.underlying167 rfl (by kernel_rfl)) rfl ⟨?_,?_⟩
  ·rw [HSC.out]; rfl
  ·exact q2k (q0e (q07 w) _) _
set_option maxRecDepth 100000 in
set_option maxHeartbeats 2000000 in
theorem next_angle (b:Nat) (s:ByteArray) (i:Nat) (w:World) (hs:s.size≤20000) (hi:i<s.size) (hb:b<w.heap.size) (h:Scan w b s) (hc:Lx.cls s[i]=8) :
  Calls Tryz.prog 154 #[.pointer (some ⟨b,0,none⟩),.int .i64 i] w fun e w' =>
   e=.returned (.tuple #[(Lx.scan (s.data.toList.drop i)).out i,.int .i64 ((Lx.scan (s.data.toList.drop i)).fin i),.int .i64 (Lx.scan (s.data.toList.drop i)).err])∧Below w.heap.size w w':=by
 have hsc:=Lx.scan_angle s[i] (s.data.toList.drop (i+1)) hc
 have hd:=q4g s i hi
 rw [← hd] at hsc
 have hc0:Lx.q2a (s.data.toList.drop i)=8:=by rw [hd]; exact hc
 have HC:=Lib.hid hc0
 have h0:=h.text
 obtain ⟨R,hR⟩:∃ R,s.extract (i+1) s.size=R:=⟨_,rfl⟩
 have hRl:R.data.toList=s.data.toList.drop (i+1):=by
  rw [← hR,Lib.extract_data]
  exact List.take_of_length_le (by rw [List.length_drop,← q0t]; exact Nat.le_refl _)
 have hpre:Lib.hasPrefix R.data.toList [61]=((s.data.toList.drop (i+1)).head? == some 61):=by
  rw [hRl]
  cases s.data.toList.drop (i+1) with
  | nil=>rfl
  | cons c r =>
   simp only [Lib.hasPrefix,List.isPrefixOf,List.head?_cons,Bool.and_true]
   rw [Bool.eq_iff_iff]
   simp
   exact eq_comm
 have HPRE:=Lib.hid hpre
 clear hpre
 rcases Bool.eq_false_or_eq_true ((s.data.toList.drop (i+1)).head? == some 61) with hq | hq
 ·have hlt:i+1<s.size:=by
   rcases Nat.lt_or_ge (i+1) s.size with h1 | h1
   ·exact h1
   ·rw [List.drop_eq_nil_of_le (by rw [← q0t]; exact h1)] at hq; cases hq
  have hxt:s.extract i (i+2)=bs [s[i],61]:=by
   rw [q3p,show i+2-i=2 from by omega,hd]
   have h2:=q4g s (i+1) hlt
   rw [h2] at hq ⊢
   have h3:s[i+1]=61:=by simpa using hq
   rw [h3]
   rfl
  rw [if_pos hq] at hsc
  have HSC:=Lib.hid hsc
  have HXT:=Lib.hid hxt
  clear hsc hd hc hRl hc0
  go_enter Tryz.func154,Tryz.ntmps154
  go_wp2_with fail
  refine (q6g b s i _ (by omega) (by omega) (by exact h.alloc hb _)).mono ?_
  rintro e w' ⟨rfl,m1,rfl⟩
  rw [Int.toNat_natCast,HC.out]
  go_wp2_with fail
  refine (Tryz.strings_HasPrefix R _ _).mono ?_
  rintro e w' ⟨rfl,rfl⟩
  rw [show (({ data:=#[61] }:ByteArray).data.toList)=[61] from rfl,HPRE.out]
  rw [hq]
  clear hq
  go_wp2
  refine bodyPost_ret (q1h rfl _ _ w.heap.size 167 _ _ rfl (by exact (Blk.new w _ _).drewN _) Tryz.underlying167 rfl (by kernel_rfl)) rfl ⟨?_,?_⟩
  ·rw [HSC.out,HXT.out]; rfl
  ·exact q2k (q0e (q07 w) _) _
 ·rw [if_neg (by rw [hq]; decide)] at hsc
  have hxt:s.extract i (i+1)=bs [s[i]]:=by
   rw [q3p,show i+1-i=1 from by omega,hd]
   rfl
  have HSC:=Lib.hid hsc
  have HXT:=Lib.hid hxt
  clear hsc hd hc hRl hc0 hxt
  go_enter Tryz.func154,Tryz.ntmps154
  go_wp2_with fail
  refine (q6g b s i _ (by omega) (by omega) (by exact h.alloc hb _)).mono ?_
  rintro e w' ⟨rfl,m1,rfl⟩
  rw [Int.toNat_natCast,HC.out]
  go_wp2_with fail
  refine (Tryz.strings_HasPrefix R _ _).mono ?_
  rintro e w' ⟨rfl,rfl⟩
  rw [show (({ data:=#[61] }:ByteArray).data.toList)=[61] from rfl,HPRE.out]
  rw [hq]
  clear hq
  go_wp2
  refine bodyPost_ret (q1h rfl _ _ w.heap.size 167 _ _ rfl (by exact (Blk.new w _ _).drewN _) Tryz.underlying167 rfl (by kernel_rfl)) rfl ⟨?_,?_⟩
  ·rw [HSC.out,HXT.out]; rfl
  ·exact q2k (q0e (q07 w) _) _
set_option maxRecDepth 100000 in
set_option maxHeartbeats 2000000 in
theorem next_sym (b:Nat) (s:ByteArray) (i:Nat) (w:World) (hs:s.size≤20000) (hi:i<s.size) (hb:b<w.heap.size) (h:Scan w b s) (hc:Lx.cls s[i]=9) :
  Calls Tryz.prog 154 #[.pointer (some ⟨b,0,none⟩),.int .i64 i] w fun e w' =>
   e=.returned (.tuple #[(Lx.scan (s.data.toList.drop i)).out i,.int .i64 ((Lx.scan (s.data.toList.drop i)).fin i),.int .i64 (Lx.scan (s.data.toList.drop i)).err])∧Below w.heap.size w w':=by
 have hsc:=Lx.scan_sym s[i] (s.data.toList.drop (i+1)) hc
 have hd:=q4g s i hi
 rw [← hd] at hsc
 have hc0:Lx.q2a (s.data.toList.drop i)=9:=by rw [hd]; exact hc
 have HC:=Lib.hid hc0
 have h0:=h.text
 have hxt:s.extract i (i+1)=bs [s[i]]:=by
  rw [q3p,show i+1-i=1 from by omega,hd]
  rfl
 have HSC:=Lib.hid hsc
 have HXT:=Lib.hid hxt
 clear hsc hd hc hc0 hxt
 go_enter Tryz.func154,Tryz.ntmps154
 go_wp2_with fail
 refine (q6g b s i _ (by omega) (by omega) (by exact h.alloc hb _)).mono ?_
 rintro e w' ⟨rfl,m1,rfl⟩
 rw [Int.toNat_natCast,HC.out]
 go_wp2
 refine bodyPost_ret (q1h rfl _ _ w.heap.size 167 _ _ rfl (by exact (Blk.new w _ _).drewN _) Tryz.underlying167 rfl (by kernel_rfl)) rfl ⟨?_,?_⟩
 ·rw [HSC.out,HXT.out]; rfl
 ·exact q2k (q0e (q07 w) _) _
set_option maxRecDepth 100000 in
set_option maxHeartbeats 2000000 in
theorem next_other (b:Nat) (s:ByteArray) (i:Nat) (w:World) (hs:s.size≤20000) (hi:i<s.size) (hb:b<w.heap.size) (h:Scan w b s) (h3:Lx.cls s[i]≠3) (h4:Lx.cls s[i]≠4) (h6:Lx.cls s[i]≠6) (h7:Lx.cls s[i]≠7) (h8:Lx.cls s[i]≠8) (h9:Lx.cls s[i]≠9) :
  Calls Tryz.prog 154 #[.pointer (some ⟨b,0,none⟩),.int .i64 i] w fun e w' =>
   e=.returned (.tuple #[(Lx.scan (s.data.toList.drop i)).out i,.int .i64 ((Lx.scan (s.data.toList.drop i)).fin i),.int .i64 (Lx.scan (s.data.toList.drop i)).err])∧Below w.heap.size w w':=by
 have hsc:=Lx.scan_other s[i] (s.data.toList.drop (i+1)) h3 h4 h6 h7 h8 h9
 have hd:=q4g s i hi
 rw [← hd] at hsc
 have hc0:Lx.q2a (s.data.toList.drop i)=Lx.cls s[i]:=by rw [hd]; rfl
 have HC:=Lib.hid hc0
 have e3:((Lx.cls s[i]:Int)==3)=false:=by rw [beq_eq_false_iff_ne]; omega
 have e4:((Lx.cls s[i]:Int)==4)=false:=by rw [beq_eq_false_iff_ne]; omega
 have e6:((Lx.cls s[i]:Int)==6)=false:=by rw [beq_eq_false_iff_ne]; omega
 have e7:((Lx.cls s[i]:Int)==7)=false:=by rw [beq_eq_false_iff_ne]; omega
 have e8:((Lx.cls s[i]:Int)==8)=false:=by rw [beq_eq_false_iff_ne]; omega
 have e9:((Lx.cls s[i]:Int)==9)=false:=by rw [beq_eq_false_iff_ne]; omega
 have HSC:=Lib.hid hsc
 clear hsc hd hc0
 go_enter Tryz.func154,Tryz.ntmps154
 go_wp2_with fail
 refine (q6g b s i _ (by omega) (by omega) (by exact h.alloc hb _)).mono ?_
 rintro e w' ⟨rfl,m1,rfl⟩
 rw [Int.toNat_natCast,HC.out]
 generalize Lx.cls s[i]=cc at *
 go_wp2
 refine bodyPost_ret (q1h rfl _ _ w.heap.size 167 _ _ rfl (by exact (Blk.new w _ _).drewN _) Tryz.underlying167 rfl (by kernel_rfl)) rfl ⟨?_,?_⟩
 ·rw [HSC.out]; rfl
 ·exact q2k (q0e (q07 w) _) _
theorem next_any (b:Nat) (s:ByteArray) (i:Int) (w:World) (hs:s.size≤20000) (hi0:0≤i) (hi:i<s.size) (hb:b<w.heap.size) (h:Scan w b s) :
  Calls Tryz.prog 154 #[.pointer (some ⟨b,0,none⟩),.int .i64 i] w fun e w' =>
   e=.returned (.tuple #[(Lx.scan (s.data.toList.drop i.toNat)).out i.toNat,.int .i64 ((Lx.scan (s.data.toList.drop i.toNat)).fin i.toNat),.int .i64 (Lx.scan (s.data.toList.drop i.toNat)).err])∧Below w.heap.size w w':=by
 obtain ⟨i,rfl⟩:=Int.eq_ofNat_of_zero_le hi0
 rw [Int.toNat_natCast]
 have hi':i<s.size:=by omega
 by_cases h3:Lx.cls s[i]=3
 ·exact next_letter b s i w hs hi' hb h h3
 by_cases h4:Lx.cls s[i]=4
 ·exact next_digit b s i w hs hi' hb h h4
 by_cases h6:Lx.cls s[i]=6
 ·exact next_quote b s i w hs hi' hb h h6
 by_cases h7:Lx.cls s[i]=7
 ·exact next_mark b s i w hs hi' hb h h7
 by_cases h8:Lx.cls s[i]=8
 ·exact next_angle b s i w hs hi' hb h h8
 by_cases h9:Lx.cls s[i]=9
 ·exact next_sym b s i w hs hi' hb h h9
 exact next_other b s i w hs hi' hb h h3 h4 h6 h7 h8 h9
end Go.Proofs.YtfecgebhoondjaaGreatDoor
namespace Go.Proofs.YtfecgebhoondjaaGreatDoor
open Go.RowKit
def q1j (C:Array Value) (l:List UInt8) (k:Int):Array Value:=l.foldl (fun C c=>C.setIfInBounds c.toNat (.int .i64 k)) C
theorem q3k (C:Array Value) (l:List UInt8) (k:Int):(q1j C l k).size=C.size:=by
 unfold q1j
 induction l generalizing C with
 | nil=>rfl
 | cons c r ih=>rw [List.foldl_cons,ih]; simp
theorem setAll_snoc (C:Array Value) (l:List UInt8) (c:UInt8) (k:Int):q1j C (l++[c]) k=(q1j C l k).setIfInBounds c.toNat (.int .i64 k):=by
 simp [q1j]
theorem qmn (w:World) (g i:Nat) (C:Array Value) (t:TypeId) (v:Value) (C':Array Value) (hg:w.heap[g]? = some (.cells C t (0,0))):(w.setRow g C').setCell ⟨g,i,none⟩ v=w.setRow g (C'.setIfInBounds i v):=by
 simp only [World.setRow,World.setCell]
 congr 1
 apply Array.ext_getElem?
 intro j
 simp only [Array.getElem?_modify]
 by_cases h:g=j
 ·subst h; simp [hg]
 ·simp [h]
theorem setRow_heap (w:World) (g:Nat) (C:Array Value) (t:TypeId) (C':Array Value) (hg:w.heap[g]? = some (.cells C t (0,0))):(w.setRow g C').heap[g]? = some (.cells C' t (0,0)):=by
 simp [World.setRow,Array.getElem?_modify,hg]
theorem setRow_self (w:World) (g:Nat) (C:Array Value) (t:TypeId) (hg:w.heap[g]? = some (.cells C t (0,0))):w.setRow g C=w:=by
 simp only [World.setRow]
 have:(w.heap.modify g fun | .cells _ elem frozen=>.cells C elem frozen | o=>o)=w.heap:=by
  apply Array.ext_getElem?
  intro j
  rw [Array.getElem?_modify]
  by_cases h:g=j
  ·subst h; simp [hg]
  ·simp [h]
 exact congrArg (fun h=>({ w with heap:=h }:World)) this
set_option maxRecDepth 100000 in
set_option maxHeartbeats 1000000 in
theorem set_any (s:ByteArray) (k:Int) (g:Nat) (C:Array Value) (w:World) (hs:s.size≤1000) (hC:C.size=256) (hg:w.heap[g]? = some (.cells C 190 (0,0))) :
  Calls Tryz.prog 181 #[.string s,.int .i64 k,.pointer (some ⟨g,0,none⟩)] w fun e w'=>e=.returned (.tuple #[])∧w'=w.setRow g (q1j C s.data.toList k):=by
 have HG:=Lib.hid hg
 have hw:w=w.setRow g (q1j C (s.data.toList.take 0) k):=(setRow_self w g C _ hg).symm
 have HW:=Lib.hid hw
 clear hw hg
 have HC:=Lib.hid hC; clear hC
 go_enter Tryz.func181,Tryz.ntmps181
 go_wp2
 go_loopw [5] (fun v wr=>∃ i:Nat,i≤s.size∧v=.int .i64 i∧wr=w.setRow g (q1j C (s.data.toList.take i) k)) (fun v _=>s.size-(intOf v).toNat)
 case atStart=>exact ⟨0,by omega,rfl,HW.out⟩
 case round =>
  obtain ⟨i,hi,rfl,hwr⟩:=hrel
  have HWR:=Lib.hid hwr
  clear hwr
  by_cases hlt:i<s.size
  ·have hx:=qcv s i hlt
   have HX:=Lib.hid hx; clear hx
   have hb:s[i].toNat<256:=UInt8.toNat_lt s[i]
   have hh:wr.heap[g]? = some (.cells (q1j C (s.data.toList.take i) k) 190 (0,0)):=by rw [HWR.out]; exact setRow_heap w g C _ _ HG.out
   have hcell:wr.cell? ⟨g,s[i].toNat,none⟩=some ((q1j C (s.data.toList.take i) k)[s[i].toNat]'(by rw [q3k,HC.out]; exact hb)):=by
    rw [cell_of_row wr g _ _ _ _ hh]
    simp
   have hfr:wr.frozen? ⟨g,s[i].toNat,none⟩=false:=frozen_of_row wr g _ _ _ hh
   clear hh
   generalize (q1j C (s.data.toList.take i) k)[s[i].toNat]'(by rw [q3k,HC.out]; exact hb)=old at *
   go_wp2
   go_roundw
   case rel =>
    refine ⟨i+1,by omega,by go_num,?_⟩
    rw [List.take_add_one,HX.out,HWR.out]
    simp only [Option.toList]
    rw [setAll_snoc,← qmn w g _ C _ _ _ HG.out]
   case measure=>simp [intOf]; omega
  ·go_wp2
   go_end0
   refine ⟨rfl,?_⟩
   have hi2:i=s.size:=by omega
   rw [HWR.out,List.take_of_length_le (by rw [← q0t]; omega)]
theorem setRow_two (w:World) (o:Obj) (c c':Array Value) (t:TypeId):((w.alloc o).alloc (.cells c t)).setRow (w.heap.size+1) c'=(w.alloc o).alloc (.cells c' t):=by
 have:=World.setRow_alloc_new (w.alloc o) c c' t
 simpa using this
theorem heap_two (w:World) (o o':Obj):((w.alloc o).alloc o').heap[w.heap.size+1]? = some o':=by
 have:=heap_alloc_last (w.alloc o) o'
 simpa using this
theorem q7u (s:ByteArray) (k:Int) (w:World) (o:Obj) (C:Array Value) (hs:s.size≤1000) (hC:C.size=256) :
  Calls Tryz.prog 181 #[.string s,.int .i64 k,.pointer (some ⟨w.heap.size+1,0,none⟩)] ((w.alloc o).alloc (.cells C 190)) fun e w' =>
   e=.returned (.tuple #[])∧w'=(w.alloc o).alloc (.cells (q1j C s.data.toList k) 190):=by
 refine (set_any s k (w.heap.size+1) C _ hs hC (heap_two w o _)).mono ?_
 rintro e w' ⟨rfl,rfl⟩
 exact ⟨rfl,setRow_two w o _ _ _⟩
def tab0:Array Value:=Array.replicate 256 (.int .i64 0)
def tab1:Array Value:=q1j tab0 [97,98,99,100,101,102,103,104,105,106,107,108,109,110,111,112,113,114,115,116,117,118,119,120,121,122,65,66,67,68,69,70,71,72,73,74,75,76,77,78,79,80,81,82,83,84,85,86,87,88,89,90] 3
def tab2:Array Value:=q1j tab1 [48,49,50,51,52,53,54,55,56,57] 4
def tab3:Array Value:=q1j tab2 [95] 5
def tab4:Array Value:=q1j tab3 [32,9,10] 1
def tab5:Array Value:=q1j tab4 [35] 2
def tab6:Array Value:=q1j tab5 [34] 6
def tab7:Array Value:=q1j tab6 [33] 7
def tab8:Array Value:=q1j tab7 [60,62] 8
def tab9:Array Value:=q1j tab8 [59,44,46,58,40,41,91,93,123,125,61,43,45] 9
theorem qda:tab0.size=256:=by simp [tab0]
theorem tab1_size:tab1.size=256:=by unfold tab1; rw [q3k,qda]
theorem tab2_size:tab2.size=256:=by unfold tab2; rw [q3k,tab1_size]
theorem tab3_size:tab3.size=256:=by unfold tab3; rw [q3k,tab2_size]
theorem tab4_size:tab4.size=256:=by unfold tab4; rw [q3k,tab3_size]
theorem tab5_size:tab5.size=256:=by unfold tab5; rw [q3k,tab4_size]
theorem tab6_size:tab6.size=256:=by unfold tab6; rw [q3k,tab5_size]
theorem tab7_size:tab7.size=256:=by unfold tab7; rw [q3k,tab6_size]
theorem tab8_size:tab8.size=256:=by unfold tab8; rw [q3k,tab7_size]
def q4i:Array Value:=((List.range 256).map fun c=>Value.int .i64 (Lx.cls (UInt8.ofNat c):Nat)).toArray
theorem tab_all:tab9=q4i:=by kernel_rfl
theorem q80:q4i.size=256:=by kernel_rfl
theorem clsTab_at (c:UInt8):q4i[c.toNat]? = some (.int .i64 (Lx.cls c:Nat)):=by
 have hc:c.toNat<256:=UInt8.toNat_lt c
 have h:q4i.toList[c.toNat]? = some (.int .i64 (Lx.cls c:Nat)):=by
  show ((List.range 256).map fun c=>Value.int .i64 (Lx.cls (UInt8.ofNat c):Nat))[c.toNat]? = _
  rw [List.getElem?_map,List.getElem?_range hc]
  simp
 simpa using h
theorem qle:q4i.all (·.oneCell')=true:=by kernel_rfl
theorem zero_tab:∀ w,(zeroValue 190).run Tryz.prog w=.ok (.agg tab0) w:=fun _=>by kernel_rfl
theorem qk2:(Tryz.prog.info? 190).map (·.size)=some 256:=by kernel_rfl
set_option maxRecDepth 100000 in
set_option maxHeartbeats 1000000 in
theorem classes_any (w:World) :
  Calls Tryz.prog 152 #[] w fun e w'=>e=.returned (.agg q4i)∧Below w.heap.size w w':=by
 have hmf:∀ (fn:Fn) (first cap:Array Value) (w:World),(Instr.makeFunc fn first cap).run Tryz.prog w=.ok (.func fn first cap) w:=fun _ _ _ _=>rfl
 have hz:=zero_tab
 go_enter Tryz.func152,Tryz.ntmps152
 go_wp2_with fail
 refine (q7u { data:=#[97,98,99,100,101,102,103,104,105,106,107,108,109,110,111,112,113,114,115,116,117,118,119,120,121,122,65,66,67,68,69,70,71,72,73,74,75,76,77,78,79,80,81,82,83,84,85,86,87,88,89,90] } 3 w _ tab0 (by show 52≤1000; omega) qda).mono ?_
 rintro e w' ⟨rfl,rfl⟩
 rw [show q1j tab0 ({ data:=#[97,98,99,100,101,102,103,104,105,106,107,108,109,110,111,112,113,114,115,116,117,118,119,120,121,122,65,66,67,68,69,70,71,72,73,74,75,76,77,78,79,80,81,82,83,84,85,86,87,88,89,90] }:ByteArray).data.toList 3=tab1 from rfl]
 go_wp2_with fail
 refine (q7u { data:=#[48,49,50,51,52,53,54,55,56,57] } 4 w _ tab1 (by show 10≤1000; omega) tab1_size).mono ?_
 rintro e w' ⟨rfl,rfl⟩
 rw [show q1j tab1 ({ data:=#[48,49,50,51,52,53,54,55,56,57] }:ByteArray).data.toList 4=tab2 from rfl]
 go_wp2_with fail
 refine (q7u { data:=#[95] } 5 w _ tab2 (by show 1≤1000; omega) tab2_size).mono ?_
 rintro e w' ⟨rfl,rfl⟩
 rw [show q1j tab2 ({ data:=#[95] }:ByteArray).data.toList 5=tab3 from rfl]
 go_wp2_with fail
 refine (q7u { data:=#[32,9,10] } 1 w _ tab3 (by show 3≤1000; omega) tab3_size).mono ?_
 rintro e w' ⟨rfl,rfl⟩
 rw [show q1j tab3 ({ data:=#[32,9,10] }:ByteArray).data.toList 1=tab4 from rfl]
 go_wp2_with fail
 refine (q7u { data:=#[35] } 2 w _ tab4 (by show 1≤1000; omega) tab4_size).mono ?_
 rintro e w' ⟨rfl,rfl⟩
 rw [show q1j tab4 ({ data:=#[35] }:ByteArray).data.toList 2=tab5 from rfl]
 go_wp2_with fail
 refine (q7u { data:=#[34] } 6 w _ tab5 (by show 1≤1000; omega) tab5_size).mono ?_
 rintro e w' ⟨rfl,rfl⟩
 rw [show q1j tab5 ({ data:=#[34] }:ByteArray).data.toList 6=tab6 from rfl]
 go_wp2_with fail
 refine (q7u { data:=#[33] } 7 w _ tab6 (by show 1≤1000; omega) tab6_size).mono ?_
 rintro e w' ⟨rfl,rfl⟩
 rw [show q1j tab6 ({ data:=#[33] }:ByteArray).data.toList 7=tab7 from rfl]
 go_wp2_with fail
 refine (q7u { data:=#[60,62] } 8 w _ tab7 (by show 2≤1000; omega) tab7_size).mono ?_
 rintro e w' ⟨rfl,rfl⟩
 rw [show q1j tab7 ({ data:=#[60,62] }:ByteArray).data.toList 8=tab8 from rfl]
 go_wp2_with fail
 refine (q7u { data:=#[59,44,46,58,40,41,91,93,123,125,61,43,45] } 9 w _ tab8 (by show 13≤1000; omega) tab8_size).mono ?_
 rintro e w' ⟨rfl,rfl⟩
 rw [show q1j tab8 ({ data:=#[59,44,46,58,40,41,91,93,123,125,61,43,45] }:ByteArray).data.toList 9=tab9 from rfl]
 rw [tab_all]
 go_wp2_with (first | (refine wpList_load_row rfl 190 _ rfl (w.heap.size+1) rfl 190 q4i (0,0) _ (heap_two w _ _) Tryz.underlying190 rfl (by rw [q80]; exact qk2) ?_) | (refine wpList_store_row rfl 190 _ _ rfl w.heap.size q4i rfl rfl 190 tab0 ?h1 (by rw [q80]; exact qk2) (by rw [q80,qda]) qle ?_))
 case h1=>exact heap_alloc2_old w _ _
 have hh:((((w.alloc (.cells tab0 190)).alloc (.cells q4i 190))).setRow w.heap.size q4i).heap[w.heap.size]? = some (.cells q4i 190 (0,0)) :=
  setRow_heap _ _ tab0 _ _ (heap_alloc2_old w _ _)
 refine bodyPost_ret (results_cell_row rfl _ _ w.heap.size 190 q4i (0,0) _ rfl hh Tryz.underlying190 rfl (by rw [q80]; exact qk2)) rfl ⟨rfl,?_⟩
 refine (((Below.refl w.heap.size w).alloc (Nat.le_refl _) (.cells tab0 190)).alloc (by simp) (.cells q4i 190)).trans ⟨rfl,rfl,rfl,by simp,fun k hk=>?_⟩
 simp only [World.setRow,Array.getElem?_modify]
 rw [if_neg (by omega)]
end Go.Proofs.YtfecgebhoondjaaGreatDoor
namespace Go.Proofs.YtfecgebhoondjaaGreatDoor
open Go.RowKit
attribute [local go_sem] q34 q21 q2d
def Lx.Tok.cells (t:Lx.Tok):List Value:=[.int .i64 t.kind,.int .i64 t.pos,.int .i64 t.n,.string (bs t.text)]
def q5g (l:List Lx.Tok):List Value:=l.flatMap Lx.Tok.cells
theorem ql2 (l r:List Lx.Tok):q5g (l++r)=q5g l++q5g r:=by simp [q5g]
def TokRow (w:World) (base:Nat) (v:Value) (l:List Lx.Tok):Prop:=w.ownsRow base 167 4 v l.length (q5g l)
theorem info_tok:(Tryz.prog.info? 167).map (fun i=>(i.zero,i.size,i.bytes))=some (some (.agg #[.int .i64 0,.int .i64 0,.int .i64 0,.string { data:=#[] }]),4,40):=by kernel_rfl
def q2l (s:ByteArray):Array Value:=#[.string s]++q4i
theorem qek (s:ByteArray):(q2l s).size=257:=by
 unfold q2l
 rw [Array.size_append,q80]
 rfl
theorem qmo (s:ByteArray):(q2l s).all (·.oneCell')=true:=by
 unfold q2l
 rw [Array.all_append,qle]
 simp [Value.oneCell']
theorem zeroScan:∀ w,(zeroValue 193).run Tryz.prog w=.ok (.agg (#[.string { data:=#[] }]++tab0)) w:=fun _=>by kernel_rfl
theorem builtScan (s:ByteArray):Tryz.prog.built 193 [(0,.string s),(1,.agg q4i)]=some (q2l s):=by kernel_rfl
theorem infoScan:(Tryz.prog.info? 193).map (·.size)=some 257:=by kernel_rfl
theorem scan_new (w:World) (s:ByteArray) (t:TypeId) (g:Nat) (h:Blk w g t (q2l s)):Scan w g s:=by
 refine ⟨(h.cell 0).trans ?_,fun c=>(h.cell _).trans ?_⟩
 ·unfold q2l
  rw [Array.getElem?_append_left (by simp)]
  rfl
 ·unfold q2l
  rw [Array.getElem?_append_right (by simp)]
  simp only [List.size_toArray,List.length_singleton,Nat.add_sub_cancel_left]
  exact clsTab_at c
end Go.Proofs.YtfecgebhoondjaaGreatDoor
namespace Go.Proofs.YtfecgebhoondjaaGreatDoor
open Go.RowKit
attribute [local go_sem] q34 q21 q2d
theorem setRow_last (w:World) (c c':Array Value) (t:TypeId):(w.alloc (.cells c t)).setRow w.heap.size c'=w.alloc (.cells c' t):=World.setRow_alloc_new w c c' t
structure LexRel (s:ByteArray) (w0:World) (out i:Value) (wr:World):Prop where
 ex:∃ (A:Option Addr) (c k f:Nat) (l:List Lx.Tok),out=.slice A l.length c∧i=.int .i64 k∧k≤s.size∧l.length≤5000 ∧
  wr.ownsRow w0.heap.size 167 4 out l.length (q5g l)∧s.size<f+k∧Lx.q6w f l k (s.data.toList.drop k)=Lx.lex s.data.toList
 below:Below w0.heap.size w0 wr
set_option maxRecDepth 100000 in
set_option maxHeartbeats 400000 in
theorem lex_any (s:ByteArray) (w:World) (hs:s.size≤9223372036854775807) :
  Calls Tryz.prog 125 #[.string s] w fun e w'=>∃ v,e=.returned (.tuple #[v,.int .i64 (Lx.lex s.data.toList).2.1,.int .i64 (Lx.lex s.data.toList).2.2]) ∧
   TokRow w' w.heap.size v (Lx.lex s.data.toList).1∧Below w.heap.size w w':=by
 by_cases hbig:20000<s.size
 ·have hl:Lx.lex s.data.toList=([],2,-1):=by
   unfold Lx.lex
   rw [if_pos (by rw [← q0t]; exact hbig)]
  rw [hl]
  clear hl
  go_enter Tryz.func125,Tryz.ntmps125
  go_wp2
  go_ret3
  exact ⟨_,rfl,⟨rfl,.inl ⟨rfl,rfl⟩⟩,q07 w⟩
 ·have hz:=zeroScan
  go_enter Tryz.func125,Tryz.ntmps125
  go_wp2_with fail
  refine (classes_any _).mono ?_
  rintro e w1 ⟨rfl,hb1⟩
  have HB1:=Lib.hid hb1
  clear hb1
  go_wp2_with (first | (refine qlc rfl 193 _ rfl [(0,.string s),(1,.agg q4i)] rfl (q2l s) (builtScan s) ?_) | (refine wpList_store_row rfl 193 _ _ rfl w1.heap.size (q2l s) rfl rfl 193 _ (heap_alloc_last w1 _) (by rw [qek]; exact infoScan) (by rw [qek,Array.size_append,qda]; rfl) (qmo s) ?_))
  rw [setRow_last w1 _ (q2l s)]
  go_wp2_with fail
  refine (gap_any w1.heap.size s 0 _ (by omega) (by omega) (by omega) (by simp) (scan_new _ s _ _ (Blk.new w1 _ _))).mono ?_
  rintro e w2 ⟨rfl,hb2⟩
  rw [show (0:Int).toNat=0 from rfl,List.drop_zero,Nat.zero_add]
  have hw0:Below w.heap.size w (w1.alloc (.cells (q2l s) 193)):=q0e HB1.out _
  have hS0:=scan_new _ s _ _ (Blk.new w1 193 (q2l s))
  have hlt0:w1.heap.size<(w1.alloc (.cells (q2l s) 193)).heap.size:=by simp
  generalize hW0:w1.alloc (.cells (q2l s) 193)=W0 at *
  generalize hB0:w1.heap.size=b0 at *
  clear hW0 hz
  have hg0:=Lx.gap_le s.data.toList
  rw [← q0t] at hg0
  have hl:Lx.q6w (s.data.toList.length+1) [] (Lx.gap s.data.toList) (s.data.toList.drop (Lx.gap s.data.toList))=Lx.lex s.data.toList:=by
   unfold Lx.lex
   rw [if_neg (by rw [← q0t]; exact hbig)]
  have HL:=Lib.hid hl
  have HW0:=Lib.hid hw0
  have HS0:=Lib.hid hS0
  have HB2:=Lib.hid hb2
  clear hl hw0 hS0 hb2
  go_wp2
  go_loopw [6,7] (fun out i wr=>LexRel s W0 out i wr) (fun _ i _=>s.size-(intOf i).toNat)
  case atStart=>exact ⟨⟨none,0,_,_,[],rfl,rfl,hg0,by simp,⟨rfl,.inl ⟨rfl,rfl⟩⟩,by rw [q0t]; omega,HL.out⟩,HB2.out⟩
  case round =>
   obtain ⟨⟨A,c,k,f,l,rfl,rfl,hk,hl5,hown,hf,hlex⟩,hbr⟩:=hrel
   have HOWN:=Lib.hid hown
   have HLEX:=Lib.hid hlex
   clear hown hlex HL HB2
   have hSr:=HS0.out.below hbr hlt0
   have hszr:=hbr.size
   have HBR:=Lib.hid hbr
   have HSR:=Lib.hid hSr
   clear hbr hSr
   by_cases hlt:k<s.size
   ·obtain ⟨f,rfl⟩:∃ f',f=f'+1:=⟨f-1,by omega⟩
    have hd:=q4g s k hlt
    have hlex:=HLEX.out
    rw [hd] at hlex
    have HLX:=Lib.hid hlex
    have HD:=Lib.hid hd
    clear hlex hd HLEX
    go_wp2_with fail
    refine (next_any b0 s k _ (by omega) (by omega) (by omega) (by omega) HSR.out).mono ?_
    rintro e w3 ⟨rfl,hb3⟩
    rw [Int.toNat_natCast]
    have hw:=Lx.qfk (s.data.toList.drop k)
    unfold Lx.Fits at hw
    rw [List.length_drop,← q0t] at hw
    have h1:=Lx.lexAt_full f l k s[k] (s.data.toList.drop (k+1))
    have h2:=Lx.lexAt_err f l k s[k] (s.data.toList.drop (k+1))
    have h3:=Lx.lexAt_tok f l k s[k] (s.data.toList.drop (k+1))
    have hlx:=HLX.out
    rw [← HD.out] at h1 h2 h3 hlx
    obtain ⟨q,hq,hq2⟩:∃ q:Int,(Lx.scan (s.data.toList.drop k)).out k=.agg #[.int .i64 (Lx.scan (s.data.toList.drop k)).kind,.int .i64 q,.int .i64 (Lx.scan (s.data.toList.drop k)).n,.string (bs (Lx.scan (s.data.toList.drop k)).text)] ∧
      ((Lx.scan (s.data.toList.drop k)).err=0→q=k):=⟨_,rfl,fun h=>by rw [if_pos h]⟩
    rw [hq]
    clear hq HLX HD
    generalize Lx.scan (s.data.toList.drop k)=r at *
    obtain ⟨err,kind,n,text,width⟩:=r
    simp only [] at hw h1 h2 h3 hq2
    simp only [Lx.Sc.fin]
    by_cases he:err=0
    ·subst he
     rw [if_pos rfl]
     obtain rfl:=hq2 rfl
     obtain ⟨hw1,hw2⟩:=hw rfl
     by_cases hfull:l.length=5000
     ·have hfin:=h1 rfl hfull
      rw [hlx] at hfin
      have HFIN:=Lib.hid hfin
      have hfull':((l.length:Int)==5000)=true:=by rw [beq_iff_eq]; omega
      clear hfin hlx h1 h2 h3 hfull
      have HB3:=Lib.hid hb3
      clear hb3
      go_wp2
      go_ret3
      refine ⟨.slice none 0 0,?_,?_,?_⟩
      ·rw [HFIN.out]; rfl
      ·rw [HFIN.out]; exact ⟨rfl,.inl ⟨rfl,rfl⟩⟩
      ·exact HW0.out.trans ((HBR.out.trans ((q0e HB3.out _).mono hszr)).mono HW0.out.size)
     ·have hfin:=h3 rfl hfull
      rw [hlx] at hfin
      have HFIN:=Lib.hid hfin
      have hfull':((l.length:Int)==5000)=false:=by rw [beq_eq_false_iff_ne]; omega
      have hlenb:l.length+1≤5000:=by omega
      clear hfin hlx h1 h2 h3 hfull
      have HB3:=Lib.hid hb3
      clear hb3
      obtain ⟨i0,hi0,hz0,hz1,hz2⟩:=info_parts info_tok
      have hub:∀ u∈[Value.int .i64 kind,.int .i64 k,.int .i64 n,.string (bs text)],u.oneCell'=true:=by simp [Value.oneCell']
      have HUB:=Lib.hid hub
      clear hub
      have hb3z:=HB3.out.size
      go_wp2_with (first | (at_builtin; refine wpList_append_own _ rfl _ _ 163 rfl W0.heap.size 167 i0 (.agg #[.int .i64 0,.int .i64 0,.int .i64 0,.string { data:=#[] }]) 4 40 Tryz.underlying163 hi0 hz0 hz1 hz2 rfl (by decide) _ l.length (q5g l) rfl (q88 (q88 (q88 HOWN.out HB3.out) (q0e (q07 w3) _)) (q0e (q07 _) _)) ⟨w3.heap.size+1,0,none⟩ 1 1 [.int .i64 kind,.int .i64 k,.int .i64 n,.string (bs text)] rfl rfl (by exact cells_new _ [.int .i64 kind,.int .i64 k,.int .i64 n,.string (bs text)] _ _ (by simp)) HUB.out (by unfold maxLen; omega) (by omega) (by simp; omega) ?_; intro v' w4 hown4 hg4 _))
      obtain ⟨A',c',rfl⟩:=qcy hown4
      have hbel4:Below W0.heap.size W0 w4:=(HBR.out.trans (HB3.out.mono hszr)).trans ((((q07 w3).alloc (Nat.le_refl _) _).alloc (by simp) _).mono (by omega)) |>.grown hg4 (by simp; omega) (q1v HOWN.out)
      have hS4:=HS0.out.below hbel4 hlt0
      have hz4:=hbel4.size
      have HBEL4:=Lib.hid hbel4
      have HOWN4:=Lib.hid hown4
      clear hbel4 hown4 hg4
      refine (gap_any b0 s _ _ (by omega) (by omega) (by omega) (by omega) hS4).mono ?_
      rintro e w5 ⟨rfl,hb5⟩
      rw [show ((k:Int)+(width:Int)).toNat=k+width from by omega]
      have hgl:=Lx.gap_le (s.data.toList.drop (k+width))
      rw [List.length_drop,← q0t] at hgl
      have hfin:=HFIN.out
      rw [List.drop_drop,List.drop_drop] at hfin
      have HFIN2:=Lib.hid hfin
      clear hfin HFIN
      generalize Lx.gap (s.data.toList.drop (k+width))=gg at *
      have HB5:=Lib.hid hb5
      clear hb5 hS4
      go_wp2
      go_roundw
      case rel =>
       refine ⟨⟨A',c',k+width+gg,f,l++[Lx.Sc.tok ⟨0,kind,n,text,width⟩ k],?_,by go_num,by omega,?_,?_,by omega,?_⟩,HBEL4.out.trans (HB5.out.mono hz4)⟩
       ·rw [List.length_append]; rfl
       ·rw [List.length_append]; exact hlenb
       ·have h5:=q88 HOWN4.out HB5.out
        rw [ql2,List.length_append]
        exact h5
       ·rw [← HFIN2.out]
      case measure=>simp [intOf]; omega
    ·rw [if_neg he]
     have hfin:=h2 he
     rw [hlx] at hfin
     have HFIN:=Lib.hid hfin
     have he':(err==0)=false:=by rw [beq_eq_false_iff_ne]; exact he
     have he'':(err != 0)=true:=by rw [bne_iff_ne]; exact he
     clear hfin hlx h1 h2 h3 he hw hq2
     have HB3:=Lib.hid hb3
     clear hb3
     go_wp2
     go_ret3
     refine ⟨.slice none 0 0,?_,?_,?_⟩
     ·rw [HFIN.out]; rfl
     ·rw [HFIN.out]; exact ⟨rfl,.inl ⟨rfl,rfl⟩⟩
     ·exact HW0.out.trans ((HBR.out.trans ((q0e HB3.out _).mono hszr)).mono HW0.out.size)
   ·have hk2:k=s.size:=by omega
    have hd:s.data.toList.drop k=[]:=List.drop_eq_nil_of_le (by rw [← q0t]; omega)
    have hfin:=HLEX.out
    rw [hd,Lx.lexAt_nil] at hfin
    have HFIN:=Lib.hid hfin
    clear hfin hd HLEX
    have HK2:=Lib.hid hk2
    clear hk2
    go_wp2
    go_ret3
    refine ⟨.slice A l.length c,?_,?_,HW0.out.trans (HBR.out.mono HW0.out.size)⟩
    ·rw [← HFIN.out]; rfl
    ·rw [← HFIN.out]
     exact q8i HOWN.out HW0.out.size
end Go.Proofs.YtfecgebhoondjaaGreatDoor
set_option linter.unusedVariables false
namespace Go.Proofs.YtfecgebhoondjaaGreatDoor
open Go.RowKit
open R
theorem one_arg {κ:Cx} {w:World} {a:Comp} {vs:List Value} (h:q0g κ w [a] vs):∃ x,vs=[x]∧a.Rep κ w x:=by
 match vs,h with
 | [x],h =>
  obtain ⟨u,hu,hr⟩:=h.2 0 _ rfl
  injection hu with hu
  have hu:x=u:=hu
  subst hu
  exact ⟨_,rfl,hr⟩
theorem two_args {κ:Cx} {w:World} {a b:Comp} {vs:List Value} (h:q0g κ w [a,b] vs):∃ x y,vs=[x,y]∧a.Rep κ w x∧b.Rep κ w y:=by
 match vs,h with
 | [x,y],h =>
  obtain ⟨u,hu,hr⟩:=h.2 0 _ rfl
  obtain ⟨u',hu',hr'⟩:=h.2 1 _ rfl
  injection hu with hu; injection hu' with hu'
  have hu:x=u:=hu
  have hu':y=u':=hu'
  subst hu; subst hu'
  exact ⟨_,_,rfl,hr,hr'⟩
theorem qly {κ:Cx} {w:World} {a b c:Comp} {vs:List Value} (h:q0g κ w [a,b,c] vs):∃ x y z,vs=[x,y,z]∧a.Rep κ w x∧b.Rep κ w y∧c.Rep κ w z:=by
 match vs,h with
 | [x,y,z],h =>
  obtain ⟨u,hu,hr⟩:=h.2 0 _ rfl
  obtain ⟨u',hu',hr'⟩:=h.2 1 _ rfl
  obtain ⟨u'',hu'',hr''⟩:=h.2 2 _ rfl
  injection hu with hu; injection hu' with hu'; injection hu'' with hu''
  have hu:x=u:=hu
  have hu':y=u':=hu'
  have hu'':z=u'':=hu''
  subst hu; subst hu'; subst hu''
  exact ⟨_,_,_,rfl,hr,hr',hr''⟩
theorem let_holds:cLet.Holds Tryz.prog:=by
 refine ⟨⟨⟨_,Tryz.func87,by kernel_rfl,by kernel_rfl⟩,fun F' hF p r hr=>by injection hF with hF; subst hF; exact hr⟩,fun p vs w S hS hp hvs=>?_⟩
 obtain ⟨s,lo,hi⟩:=p
 obtain ⟨v,v2,v3,rfl,hv,hv2,hv3⟩:=qly hvs
 obtain rfl:v=.string (bs s):=hv
 obtain rfl:v2=.int .i64 lo:=hv2
 obtain rfl:v3=.int .i64 hi:=hv3
 refine (qf4 s lo hi w hp).mono ?_
 rintro e w' ⟨rfl,hbl⟩
 exact ⟨Snd.q0r s lo hi,_,rfl,rfl,rfl,hbl⟩
theorem tok_at (l:List Lx.Tok) (i:Nat) (t:Lx.Tok) (h:l[i]? = some t) (r:Nat) (hr:r<4):(q5g l)[i*4+r]? = t.cells[r]? := by
 induction l generalizing i with
 | nil=>simp at h
 | cons x l ih =>
  have e:q5g (x::l)=x.cells++q5g l:=rfl
  have hl:x.cells.length=4:=rfl
  rw [e]
  cases i with
  | zero =>
   injection h with h
   subst h
   rw [Nat.zero_mul,Nat.zero_add,List.getElem?_append_left (by omega)]
  | succ i =>
   rw [List.getElem?_append_right (by omega),hl,show (i+1)*4+r-4=i*4+r by omega]
   exact ih i h
section
variable {S:Nat→Prop} {w:World} {v:Value}
theorem tok_row {base:Nat} {l:List Lx.Tok} (h:TokRow w base v l) (hS:∀ g,base≤g→g<w.heap.size→S g):Kd.Rep w S (.sl kTok) (l.map tokP) v:=by
 have hlen:(l.map tokP).length=l.length:=List.length_map ..
 rcases h.2 with ⟨rfl,h0⟩ | ⟨g,cap,cur,rfl,hb,hg,hc,_,hsz,ht⟩
 ·refine ⟨none,0,by rw [hlen,h0],by rw [hlen,h0]; exact Nat.le_refl _,fun hl=>?_⟩
  rw [hlen] at hl
  omega
 ·have hlt:g<w.heap.size:=by
   rcases Nat.lt_or_ge g w.heap.size with h' | h'
   ·exact h'
   ·rw [Array.getElem?_eq_none h'] at hg; cases hg
  refine ⟨_,cap,by rw [hlen],by rw [hlen]; exact hc,fun hl=>⟨g,0,rfl,hlt,hS g hb hlt,fun i x hx=>?_⟩⟩
  have hx:(l.map tokP)[i]? = some x:=hx
  rw [List.getElem?_map] at hx
  cases ht':l[i]? with
  | none=>rw [ht'] at hx; cases hx
  | some t =>
   rw [ht'] at hx
   injection hx with hx
   subst hx
   have hil:i<l.length:=(List.getElem?_eq_some_iff.1 ht').1
   have key:∀ r u,r<4→t.cells[r]? = some u→w.cell? ⟨g,0+i*4+r,none⟩=some u:=fun r u hr hu=>by
    have h1:=tok_at l i t ht' r hr
    rw [hu,← ht,List.getElem?_take,if_pos (by omega),Array.getElem?_toList] at h1
    rw [Nat.zero_add]
    unfold World.cell?
    simp [hg,h1]
   exact ⟨⟨_,key 0 _ (by omega) rfl,rfl⟩,⟨_,key 1 _ (by omega) rfl,rfl⟩,⟨_,key 2 _ (by omega) rfl,rfl⟩,⟨_,key 3 _ (by omega) rfl,rfl⟩⟩
end
theorem lex_holds:cLex.Holds Tryz.prog:=by
 refine ⟨⟨⟨_,Tryz.func125,by kernel_rfl,by kernel_rfl⟩,fun F' hF p r hr=>by injection hF with hF; subst hF; exact hr⟩,fun s0 vs w S hS hp hvs=>?_⟩
 obtain ⟨v,rfl,hv⟩:=one_arg hvs
 obtain ⟨s,rfl⟩:∃ s:List UInt8,s=s0:=⟨s0,rfl⟩
 obtain rfl:v=.string (bs s):=hv
 have hp:s.length≤1000:=hp
 have hsz:(bs s).size≤9223372036854775807:=by rw [qhz]; omega
 refine (lex_any (bs s) w hsz).mono ?_
 rintro e w' ⟨v,rfl,hrow,hbl⟩
 have hrow:TokRow w' w.heap.size v (Lx.lex s).1:=hrow
 refine ⟨lexP s,_,rfl,rfl,⟨_,rfl,rfl,?_⟩,hbl⟩
 have hr:=tok_row (S:=fun g=>S g∨(w.heap.size≤g∧g<w'.heap.size)) hrow (fun g h1 h2=>.inr ⟨h1,h2⟩)
 intro i x hx
 match i,hx with
 | 0,hx=>injection hx with hx; subst hx; exact ⟨_,rfl,hr⟩
 | 1,hx=>injection hx with hx; subst hx; exact ⟨_,rfl,rfl⟩
 | 2,hx=>injection hx with hx; subst hx; exact ⟨_,rfl,rfl⟩
set_option maxRecDepth 100000 in
theorem fewC_holds:cFewC.Holds Tryz.prog:=by
 refine q1o (cons:=[]) Tryz.func96 (by kernel_rfl) (by kernel_rfl) mixed (by kernel_rfl) (fun c h=>by cases h) anFewC fun p hp=>?_
 refine cast ?_ (fewC_vc p hp)
 kernel_rfl
set_option maxRecDepth 100000 in
theorem fewW_holds:cFewW.Holds Tryz.prog:=by
 refine q1o (cons:=[]) Tryz.func95 (by kernel_rfl) (by kernel_rfl) mixed (by kernel_rfl) (fun c h=>by cases h) (fun p=>anFewW p.2) fun p hp=>?_
 obtain ⟨lang,ws⟩:=p
 refine cast ?_ (fewW_vc lang ws hp)
 kernel_rfl
set_option maxRecDepth 100000 in
theorem q7z:qem.Holds Tryz.prog:=by
 refine q1o (cons:=[cLex,cLet]) Tryz.func84 (by kernel_rfl) (by kernel_rfl) mixed (by kernel_rfl) (fun c h=>by
  rcases List.mem_cons.1 h with rfl | h
  ·exact lex_holds
  ·obtain rfl:=List.mem_singleton.1 h; exact let_holds) (fun p=>anValid p.2) fun p hp=>?_
 obtain ⟨lang,ws⟩:=p
 refine cast ?_ (valid_vc lang ws hp)
 kernel_rfl
end Go.Proofs.YtfecgebhoondjaaGreatDoor
set_option linter.unusedVariables false
namespace Go.Proofs.YtfecgebhoondjaaGreatDoor
open Go.RowKit
open R
set_option maxRecDepth 100000 in
theorem on_holds:cOn.Holds Tryz.prog:=by
 refine q1o (cons:=[]) Tryz.func26 (by kernel_rfl) (by kernel_rfl) mixed (by kernel_rfl) all_nil (fun _=>[]) fun p hp=>?_
 obtain ⟨x,y⟩:=p
 refine cast ?_ (on_vc x y)
 kernel_rfl
set_option maxRecDepth 100000 in
theorem onL_holds:cOnL.Holds Tryz.prog:=by
 refine q1o (cons:=[cOn]) Tryz.func92 (by kernel_rfl) (by kernel_rfl) mixed (by kernel_rfl) (all_cons on_holds all_nil) (fun p=>anOnL p) fun p hp=>?_
 refine cast ?_ (onL_vc p hp)
 kernel_rfl
set_option maxRecDepth 100000 in
theorem from_holds:cFrom.Holds Tryz.prog:=by
 refine q1o (cons:=[]) Tryz.func93 (by kernel_rfl) (by kernel_rfl) mixed (by kernel_rfl) all_nil (fun _=>[]) fun p hp=>?_
 obtain ⟨⟨a,b⟩,c,d⟩:=p
 refine cast ?_ (from_vc a b c d hp)
 kernel_rfl
set_option maxRecDepth 100000 in
theorem along_holds:cAlong.Holds Tryz.prog:=by
 refine q1o (cons:=[]) Tryz.func94 (by kernel_rfl) (by kernel_rfl) mixed (by kernel_rfl) all_nil (fun _=>[]) fun p hp=>?_
 obtain ⟨⟨a,b⟩,c,d⟩:=p
 refine cast ?_ (along_vc a b c d hp)
 kernel_rfl
set_option maxRecDepth 100000 in
theorem qky:cDist.Holds Tryz.prog:=by
 refine q1o (cons:=[cOnL,cFrom,cAlong]) Tryz.func47 (by kernel_rfl) (by kernel_rfl) mixed (by kernel_rfl) (all_cons onL_holds (all_cons from_holds (all_cons along_holds all_nil))) (fun _=>[]) fun p hp=>?_
 obtain ⟨⟨a,b⟩,c,d⟩:=p
 refine cast ?_ (dist_vc a b c d)
 kernel_rfl
set_option maxRecDepth 100000 in
theorem qju:cNearG.Holds Tryz.prog:=by
 refine q1o (cons:=[cDist]) Tryz.func128 (by kernel_rfl) (by kernel_rfl) mixed (by kernel_rfl) (all_cons qky all_nil) (fun _=>[]) fun p hp=>?_
 obtain ⟨⟨d1,c1,p1,x1,y1⟩,d2,c2,p2,x2,y2⟩:=p
 refine cast ?_ (nearG_vc d1 d2 c1 c2 p1 p2 x1 y1 x2 y2)
 kernel_rfl
set_option maxRecDepth 100000 in
theorem qhi:cPlaced.Holds Tryz.prog:=by
 refine q1o (cons:=[cOn]) Tryz.func73 (by kernel_rfl) (by kernel_rfl) mixed (by kernel_rfl) (all_cons on_holds all_nil) (fun _=>[]) fun p hp=>?_
 obtain ⟨d1,c1,p1,x1,y1⟩:=p
 refine cast ?_ (placed_vc d1 c1 p1 x1 y1)
 kernel_rfl
theorem kitCV_ok:kitCV.Ok Tryz.prog where
 cons:=all_cons q7z all_nil
 ns:=all_nil
 os:=all_nil
 fcs:=all_nil
 rcs:=all_nil
 inls:=q0m.more Tryz.func85 (by kernel_rfl) (by kernel_rfl) (q0m.more Tryz.func133 (by kernel_rfl) (by kernel_rfl) (q0m.more Tryz.func83 (by kernel_rfl) (by kernel_rfl) q0m.nil))
set_option maxRecDepth 100000 in
theorem q4u:q7r.Holds Tryz.prog:=by
 refine holdsX (T:=kitCV) (fun p=>anIdx p.1.2.length p.2) Tryz.func37 (by kernel_rfl) (by kernel_rfl) mixed (by kernel_rfl) kitCV_ok (fun _=>[]) fun p hp=>?_
 obtain ⟨⟨lang,ws⟩,code⟩:=p
 refine cast ?_ (cvalid_vc lang ws code hp)
 kernel_rfl
theorem key_holds:cKey.Holds Tryz.prog:=by
 refine ⟨⟨⟨_,Tryz.func126,by kernel_rfl,by kernel_rfl⟩,fun F' h p r hr=>by injection h with h; subst h; exact hr⟩,fun p vs w S hS hpre hvs=>?_⟩
 obtain ⟨v,rfl,hv⟩:=q2b hvs
 obtain ⟨A,c,rfl,hc,hrow⟩:=hv
 obtain ⟨p,rfl⟩:∃ q:List Int,q=p:=⟨p,rfl⟩
 refine (key_walk p c A w (fun hp=>?_)).mono ?_
 ·obtain ⟨g,off,rfl,hg,hSg,hrow⟩:=hrow hp
  refine ⟨_,rfl,hg,fun j v hj=>?_⟩
  rw [List.getElem?_map] at hj
  cases hx:(List.take 5 p)[j]? with
  | none=>rw [hx] at hj; cases hj
  | some x =>
   rw [hx] at hj; injection hj with hj; subst hj
   have hx':p[j]? = some x:=by
    rw [List.getElem?_take] at hx
    split at hx
    ·exact hx
    ·cases hx
   obtain ⟨u,hu,hr⟩:=hrow j x hx'
   have hr:u=.int .i64 x:=hr
   subst hr
   rw [add_pl']
   have e:off+j*(Kds.one (Kd.int IntKind.i64)).size=off+j:=by show off+j*1=_; rw [Nat.mul_one]
   rw [e] at hu
   exact hu
 ·rintro e w' ⟨rfl,hbl⟩
  refine ⟨Cod.key p,_,rfl,rfl,⟨_,rfl,⟨rfl,fun i c hi=>?_,fun i v hi=>?_⟩⟩,hbl⟩
  ·match i with
   | 0=>injection hi with hi; subst hi; exact ⟨_,rfl,rfl⟩
   | 1=>injection hi with hi; subst hi; exact ⟨_,rfl,rfl⟩
   | 2=>injection hi with hi; subst hi; exact ⟨_,rfl,rfl⟩
   | 3=>injection hi with hi; subst hi; exact ⟨_,rfl,rfl⟩
   | 4=>injection hi with hi; subst hi; exact ⟨_,rfl,rfl⟩
   | 5=>injection hi with hi; subst hi; exact ⟨_,rfl,rfl⟩
   | n+6=>cases hi
  ·match i with
   | 0=>injection hi with hi; subst hi; rfl
   | 1=>injection hi with hi; subst hi; rfl
   | 2=>injection hi with hi; subst hi; rfl
   | 3=>injection hi with hi; subst hi; rfl
   | 4=>injection hi with hi; subst hi; rfl
   | 5=>injection hi with hi; subst hi; rfl
   | n+6=>cases hi
end Go.Proofs.YtfecgebhoondjaaGreatDoor
set_option linter.unusedVariables false
namespace Go.Proofs.YtfecgebhoondjaaGreatDoor
open Go.RowKit
open R
abbrev kI:Kds:=.one (.int .i64)
def nClone:NCon:={ f:=119,args:=[q2i],e:=3,fs:=kI,pre:=fun l _=>List.length l≤1000000,F:=fun l _=>l }
def qi7:OCon:={ f:=121,e:=3,fs:=kI,args:=[q7g,q7g],ret:=true,pre:=fun xs p _=>p.2=p.1+1∧0≤p.1∧p.1<(List.length xs:Int),F:=fun xs p _=>List.eraseIdx xs p.1.toNat }
section
variable {κ:Cx} {w:World}
theorem rowCells_map {k:Kd} {enc:k.Pay→Value} {xs:List k.Pay} {cells:List Value} (hk:∀ p v,k.Rep w κ.S p v→v=enc p) (h:q0f κ w (.one k) xs cells) (hl:cells.length=xs.length):cells=xs.map enc:=by
 apply List.ext_getElem?
 intro i
 rw [List.getElem?_map]
 cases hx:xs[i]? with
 | none =>
  have:xs.length≤i:=List.getElem?_eq_none_iff.1 hx
  rw [List.getElem?_eq_none (by omega)]; rfl
 | some x =>
  obtain ⟨u,hu,hr⟩:=h i x hx 0 ⟨k,x⟩ rfl
  have e:i*(Kds.one k).size+0=i:=by show i*1+0=i; omega
  rw [e] at hu
  rw [hu,hk x u hr]; rfl
theorem qdj {k:Kd} {enc:k.Pay→Value} (xs:List k.Pay) (hk:∀ p,k.Rep w κ.S p (enc p)):q0f κ w (.one k) xs (xs.map enc):=fun i x hx f z hz=>by
 cases f with
 | succ f=>cases hz
 | zero =>
  injection hz with hz; subst hz
  refine ⟨enc x,?_,hk x⟩
  have e:i*(Kds.one k).size+0=i:=by show i*1+0=i; omega
  rw [e,List.getElem?_map,hx]; rfl
theorem data_ints {S:Nat→Prop} {l:List Int} {A:Option Addr} (hrow:0<l.length→∃ g off,A=some ⟨g,off,none⟩∧g<w.heap.size∧S g∧∀ (i:Nat) (x:Int),l[i]? = some x→kI.Rep w S x g (off+i*kI.size)) (hp:0<l.length) :
  ∃ g off,A=some ⟨g,off,none⟩∧g<w.heap.size∧∀ j,j<l.length→w.cell? ⟨g,off+j,none⟩=some (.int .i64 (l.getD j 0)):=by
 obtain ⟨g,off,e,hg,_,h⟩:=hrow hp
 refine ⟨g,off,e,hg,fun j hj=>?_⟩
 obtain ⟨u,hu,hr⟩:=h j _ (List.getElem?_eq_getElem hj)
 have hr:u=.int .i64 l[j]:=hr
 have e:off+j*kI.size=off+j:=by show off+j*1=_; omega
 rw [e] at hu
 rw [hu,hr,List.getD_eq_getElem?_getD,List.getElem?_eq_getElem hj]; rfl
end
theorem qdx:nClone.Holds Tryz.prog:=by
 refine ⟨⟨_,Tryz.func119,by kernel_rfl,by kernel_rfl⟩,fun p b vs fvs w S hS hpre hvs hfa=>?_⟩
 have hfa:fvs=[]:=hfa
 subst hfa
 obtain ⟨v,rfl,hv⟩:=q2b hvs
 obtain ⟨A,c,rfl,hc,hrow⟩:=hv
 obtain ⟨p,rfl⟩:∃ q:List Int,q=p:=⟨p,rfl⟩
 have hpre:p.length≤1000000:=hpre
 have fin:∀ (u:Value) (w':World),w'.ownsRow w.heap.size 3 1 u p.length (p.map (Value.int .i64))→Below w.heap.size w w'→Below w.heap.size w w'∧∃ u' cells,Ending.returned u=.returned u'∧w'.ownsRow w.heap.size 3 1 u' p.length cells∧q0f (Cx.of S) w kI p cells:=fun u w' ho hb =>
  ⟨hb,u,_,rfl,ho,qdj (k:=.int .i64) (enc:=Value.int .i64) p (fun x=>rfl)⟩
 by_cases h0:p.length=0
 ·obtain rfl:=List.eq_nil_of_length_eq_zero h0
  cases A with
  | none =>
   refine (Tryz.slices_Clone_int_nil 0 c w).mono ?_
   rintro e w' ⟨rfl,rfl⟩
   exact fin _ _ (World.ownsRow_nil _ _ _ _) (Below.refl _ _)
  | some ad =>
   refine (Tryz.slices_Clone_int_zero ad c w).mono ?_
   rintro e w' ⟨v',rfl,ho,_,hb⟩
   exact fin _ _ ho hb
 ·obtain ⟨g,off,rfl,hg,hcells⟩:=data_ints hrow (by omega)
  refine (Tryz.slices_Clone_int g off p.length c p w (Nat.le_refl _) (by omega) hcells).mono ?_
  rintro e w' ⟨v',rfl,ho,_,hb⟩
  rw [List.take_length] at ho
  exact fin _ _ ho hb
theorem eraseIdx_cut (l:List Int) (i:Nat) (h:i<l.length):(l.take i++l.drop (i+1)++List.replicate (i+1-i) 0).take (l.length-(i+1-i))=l.eraseIdx i:=by
 rw [List.eraseIdx_eq_take_drop_succ,List.take_append_of_le_length (by rw [List.length_append,List.length_take,List.length_drop]; omega),List.take_of_length_le (by rw [List.length_append,List.length_take,List.length_drop]; omega)]
theorem qd0:qi7.Holds Tryz.prog:=by
 refine ⟨⟨_,Tryz.func121,by kernel_rfl,by kernel_rfl⟩,fun xs p b v cells vs fvs w n0 S hn0 hS hvS hown hcells hpre hvs hfa _=>?_⟩
 have hfa:fvs=[]:=hfa
 subst hfa
 obtain ⟨⟨i,j⟩,rfl⟩:∃ q:Int×Int,q=p:=⟨p,rfl⟩
 obtain ⟨xs,rfl⟩:∃ q:List Int,q=xs:=⟨xs,rfl⟩
 have hpre:j=i+1∧0≤i∧i<(xs.length:Int):=hpre
 obtain ⟨rfl,hi0,hil⟩:=hpre
 have hvs2:vs=[.int .i64 i,.int .i64 (i+1)]:=by
  obtain ⟨h1,h2⟩:=hvs
  obtain ⟨u0,e0,r0⟩:=h2 0 _ rfl
  obtain ⟨u1,e1,r1⟩:=h2 1 _ rfl
  have r0:u0=.int .i64 i:=r0
  have r1:u1=.int .i64 (i+1):=r1
  match vs,h1 with
  | [a,b],_ =>
   injection e0 with e0; injection e1 with e1
   rw [e0,e1,r0,r1]
 subst hvs2
 have hcm:cells=xs.map (Value.int .i64):=rowCells_map (k:=.int .i64) (enc:=Value.int .i64) (fun p v h=>h) hcells (by have:=hown.1; rw [this]; exact Nat.mul_one _)
 subst hcm
 have hown1:w.ownsRow n0 3 1 v xs.length (xs.map (Value.int .i64)):=hown
 have hnn:v≠.slice none 0 0:=fun e=>by
  rcases hown1.2 with ⟨_,h0⟩ | ⟨g,cap,cur,h,_⟩
  ·rw [h0] at hil; omega
  ·rw [h] at e; cases e
 obtain ⟨g,cap,rfl,hg1,hg2,hc1,hc2,_,hH⟩:=Lib.holds_of_ownsRow hown1 hnn
 obtain ⟨k,rfl⟩:=Int.eq_ofNat_of_zero_le hi0
 have hk:k<xs.length:=by omega
 have hcap:cap≤9223372036854775807:=by unfold maxLen at hc2; omega
 have e1:((k:Int)+1)=((k+1:Nat):Int):=by omega
 rw [e1]
 refine (Tryz.slices_Delete_int g 0 cap k (k+1) xs w hH (by omega) hcap (Nat.le_succ _) (by omega)).mono ?_
 rintro e w' ⟨rfl,q,rfl⟩
 have hrow:=Lib.ownsRow_putRow (q:=q) (k:=xs.length-(k+1-k)) (ys:=xs.take k++xs.drop (k+1)++List.replicate (k+1-k) 0) hown1 (by rw [List.length_append,List.length_append,List.length_take,List.length_drop,List.length_replicate]; omega) (by omega)
 rw [eraseIdx_cut xs k hk] at hrow
 refine ⟨?_,_,(xs.eraseIdx k).map (Value.int .i64),rfl,?_,qdj (k:=.int .i64) (enc:=Value.int .i64) _ (fun x=>rfl),fun _ g' hg'=>.inl hg',fun h=>by cases h⟩
 ·exact ⟨rfl,rfl,rfl,by simp [Sort.putRow,Sort.mapBlock,Sort.ahead],fun k' hk' hne=>by
   have:g≠k':=fun e=>hne (by rw [← e]; rfl)
   simp [Sort.putRow,Sort.mapBlock,Sort.ahead,Array.getElem?_modify,this]⟩
 ·have hl:(xs.eraseIdx k).length=xs.length-(k+1-k):=by rw [List.length_eraseIdx_of_lt hk]; omega
  show World.ownsRow _ _ _ _ _ (xs.eraseIdx k).length _
  rw [hl]
  exact hrow
set_option maxRecDepth 100000 in
theorem name_vc (s:List UInt8) (h:qih.pre s) :
  s.length≤(1000:Nat)∧bif (Lx.lex s).snd.fst==(0:Int) then bif (↑(List.map tokP (Lx.lex s).fst).length:Int)==(1:Int) then ((0:Int)≤(0:Int)∧(0:Int)<(↑(List.map tokP
  (Lx.lex s).fst).length:Int))∧bif ((List.map tokP (Lx.lex s).fst).getD (Int.toNat (0:Int)) ((0:Int),(0:Int),(0:Int),[])).fst==(1:Int) then ((0:Int)≤(0:Int)∧(0 :
  Int)<(↑(List.map tokP (Lx.lex s).fst).length:Int))∧(((List.map tokP (Lx.lex s).fst).getD (Int.toNat (0:Int)) ((0:Int),(0:Int),(0:Int),[])).snd.snd.snd==s)=Lx.q1l s
  else false=Lx.q1l s else false=Lx.q1l s else false=Lx.q1l s
  := by
 have h1000:s.length≤1000:=h
 have hyes:=Lx.lex_name s (by omega)
 have hno:∀ (t:Lx.Tok) (e a:Int),Lx.lex s=([t],e,a)→e=0→t.kind=1→t.text=s→Lx.q1l s=true:=fun t e a=>Lx.name_lex s (by omega)
 have nam:(Lx.q1l s=true→False)→false=Lx.q1l s:=fun h=>by
  cases hh:Lx.q1l s
  ·rfl
  ·exact (h hh).elim
 generalize Lx.lex s=L at *
 obtain ⟨l,er,a⟩:=L
 dsimp only at *
 refine ⟨by omega,bifP (fun he=>bifP (fun hl=>?_) fun hl=>nam fun hh=>?_) fun he=>nam fun hh=>?_⟩
 ·obtain ⟨t,rfl⟩:∃ t,l=[t]:=by
   have:((l.map tokP).length:Int)=1:=beq_iff_eq.1 hl
   rw [List.length_map] at this
   exact List.length_eq_one_iff.1 (by omega)
  have he:er=0:=beq_iff_eq.1 he
  refine ⟨⟨by omega,by show (0:Int)<1; omega⟩,bifP (fun hk=>⟨⟨by omega,by show (0:Int)<1; omega⟩,?_⟩) fun hk=>nam fun hh=>?_⟩
  ·have hk:t.kind=1:=beq_iff_eq.1 hk
   show (t.text==s)=Lx.q1l s
   by_cases ht:t.text=s
   ·rw [hno t er a rfl he hk ht]; exact beq_iff_eq.2 ht
   ·rw [beq_eq_false_iff_ne.2 ht]
    refine nam fun hh=>ht ?_
    have:=hyes hh
    simp at this
    rw [this.1]
  ·have:=hyes hh
   simp at this
   exact (beq_eq_false_iff_ne.1 hk) (by show t.kind=1; rw [this.1])
 ·have:=hyes hh
  simp at this
  rw [this.1] at hl
  exact (beq_eq_false_iff_ne.1 hl) rfl
 ·have:=hyes hh
  simp at this
  exact (beq_eq_false_iff_ne.1 he) this.2.1
set_option maxRecDepth 100000 in
theorem qlq:qih.Holds Tryz.prog:=by
 refine q1o (cons:=[cLex]) Tryz.func72 (by kernel_rfl) (by kernel_rfl) mixed (by kernel_rfl) (all_cons lex_holds all_nil) (fun _=>[]) fun p hp=>?_
 refine cast ?_ (name_vc p hp)
 kernel_rfl
end Go.Proofs.YtfecgebhoondjaaGreatDoor
set_option linter.unusedVariables false
namespace Go.Proofs.YtfecgebhoondjaaGreatDoor
open Go.RowKit
namespace R
def keepE (ks:List Nat) (l:List (Nat×AV)):List (Nat×AV):=ks.map fun t=>(t,look (.c (.one .any)) t l)
def keepB:List Nat→List (Nat×List Cell)→List (Nat×List Cell)
 | [],_=>[]
 | b::r,l=>match look? b l with
  | some cs=>(b,cs)::keepB r l
  | none=>keepB r l
structure Keep where
 live:List Nat
 sav:List Nat
 box:List Nat
 lp:List Nat:=[]
def St.hd (st:St) (K:Keep) (over:List (Nat×AV)) (bover:List (Nat×List Cell)) (rows:List (Nat×Row)) (maps:List (Nat×MRow)) (fam:Option FRow):St :=
 {n:=st.n,env:=over++keepE K.live st.env,boxes:=bover++keepB K.box st.boxes,rows:=rows,sav:=keepE K.sav st.sav,maps:=maps,off:=st.off,nest:=none,iters:=[],fam:=fam,lps:=st.lps.map fun L=>{ L with env:=keepE K.lp L.env } }
def annG (l:Nat) (ι:Type) (at_:St→ι→St) (inv:ι→Prop) (mu:ι→Nat):Nat×Ann:=(l,{ ι:=ι,at_:=at_,inv:=fun _ p=>inv p,mu:=fun _ p=>mu p })
def cutG (id:Nat) (ι:Type) (at_:St→ι→St) (inv:ι→Prop):Nat×Ann:=(2000000+id,{ ι:=ι,at_:=at_,inv:=fun _ p=>inv p,mu:=fun _ _=>0 })
end R
end Go.Proofs.YtfecgebhoondjaaGreatDoor
set_option linter.unusedVariables false
namespace Go.Proofs.YtfecgebhoondjaaGreatDoor
open Go.RowKit
open R
abbrev q0k:Type:=List Cod.Giv
abbrev q03:Type:=List (Int×List Int)
abbrev q02:Type:=List (Cod.Key×Bool)
abbrev q0c:Type:=List (List UInt8×Bool)
abbrev q04:Type:=List (Cod.Key×List Cod.Giv)
def q15 (b:q0k):Prop:=b.length≤1000000∧∀ g∈b,g.1.length≤1000∧g.2.1.length≤1000000
def q8b:Con:=.of 22 [ckWl,ckCf,q4j] [q35] (fun p=>q0d p.1∧q0h p.2.1∧q15 p.2.2) (fun p=>Cod.Ear.proper ⟨p.1.1,p.1.2,p.2.1⟩ p.2.2)
noncomputable def inlCo:List (Nat×Func):=[(64,Tryz.f64),(57,Tryz.f57),(76,Tryz.f76),(109,Tryz.f109),
 (66,Tryz.f66),(117,Tryz.f117),(118,Tryz.f118),(120,Tryz.f120),
 (127,Tryz.f127),(74,Tryz.f74),(108,Tryz.f108)]
noncomputable def kitCo:Kit:={ cons:=[qih,cPlaced,q7r,cKey.lent,qem,qe9,cNear,cNearG],ns:=[nClone],os:=[qi7],inls:=inlCo }
def q5p (m:q03):MRow:=⟨152,.one (.int .i64),.one (.sl (.one (.int .i64))),m⟩
def q43 (m:q02):MRow:=⟨136,q6v,.one .bool,m⟩
def qf9 (m:q0c):MRow:=⟨140,.one .str,.one .bool,m⟩
def q19 (m:q04):FRow:={ t:=137,kk:=q6v,e:=42,fs:=kGiv,xs:=m }
def getI (k:Int) (m:q03):Option (List Int):=Mp.get (CK.eqB (.one (.int .i64))) k m
def getK {β:Type} (k:Cod.Key) (m:List (Cod.Key×β)):Option β:=Mp.get (CK.eqB q6v) k m
def getS (k:List UInt8) (m:q0c):Option Bool:=Mp.get (CK.eqB (.one .str)) k m
def q09 (e:Cod.Ear) (m:q03):Prop:=∀ i l,getI i m=some l→l=e.near i
def q29 (done:q0k) (m:q02):Prop:=∀ k,(getK k m).getD false=done.any fun o=>Cod.key o.2.1==k
def q2c (done:q0k) (m:q0c):Prop:=∀ s,(getS s m).getD false=done.any fun o=>o.1==s
def hits (xs:List (List Int)) (k:Cod.Key):Bool:=xs.any fun x=>Cod.key x==k
def q2f (e:Cod.Ear) (done:q0k) (m:q04):Prop:=∀ k,(getK k m).getD []=done.filter fun o=>hits (e.miss o.2.1) k
def q0x (e:Cod.Ear) (code:List Int) (i k:Nat):List (List Int):=(((e.near (code.getD i 0)).take k).filter fun x=>!(x==code.getD i 0)).map (code.set i)
def q0w (codes:q02) (mist:q04) (g:Cod.Giv) (x:List Int):Bool:=!((getK (Cod.key x) codes).getD false)&&!(((getK (Cod.key x) mist).getD []).any fun o=>Cod.q0q o g)
def q41 (e:Cod.Ear) (codes:q02) (mist:q04) (g:Cod.Giv):Bool:=!((getK (Cod.key g.2.1) codes).getD false)&&(((getK (Cod.key g.2.1) mist).getD []).length==0&&(e.miss g.2.1).all (q0w codes mist g))
def q0v (s0:q02) (m0:q04) (g:Cod.Giv) (xs:List (List Int)) (s:q02) (m:q04):Prop :=
 (∀ k,(getK k s).getD false=((getK k s0).getD false||hits xs k))∧∀ k,(getK k m).getD []=(getK k m0).getD []++(if hits xs k&&!((getK k s0).getD false) then [g] else [])
namespace R
def Get.mapOf (kk vk:CK) (m:Nat) (st:St):List (kk.Pay×vk.Pay):=match st.map m with
 | some y=>match y.kk.deq kk,y.vk.deq vk with
  | some ⟨h⟩,some ⟨h'⟩=>qc9 h h' y.xs
  | _,_=>[]
 | none=>[]
def Get.famOf (kk:CK) (fs:Kds) (st:St):List (kk.Pay×List fs.Pay):=match st.fam with
 | some y=>match y.kk.deq kk,y.fs.deq fs with
  | some ⟨h⟩,some ⟨h'⟩=>castFam h h' y.xs
  | _,_=>[]
 | none=>[]
def Get.boxOf (ks:Kds) (b:Nat) (st:St):ks.Pay:=match st.box b with
 | some cs=>match q1a ks cs with
  | some p=>p
  | none=>ks.dflt
 | none=>ks.dflt
def Get.entOf (fs:Kds) (t:Nat) (st:St):List fs.Pay:=match st.get t with
 | .c (.one (.fent kk k))=>match st.qai kk k with
  | some x=>match x.1.deq fs with
   | some ⟨h⟩=>q3u h x.2
   | none=>[]
  | none=>[]
 | _=>[]
def Get.cloOf (ks:Kds) (t:Nat) (st:St):ks.Pay:=match st.get t with
 | .c (.one (.clo _ _ [(b,_)]))=>Get.boxOf ks b st
 | _=>ks.dflt
def annX (l:Nat) (ι:Type) (at_:St→ι→St) (inv:St→ι→Prop) (mu:St→ι→Nat):Nat×Ann:=(l,{ ι:=ι,at_:=at_,inv:=inv,mu:=mu })
end R
abbrev lisO (o:Nat):Nat:=(o+18)*1000
def savK:Nat→List (Nat×List Nat)→List Nat
 | _,[]=>[]
 | off,(n,l)::r=>l.map (·+off)++savK (off+n) r
structure Fr where
 T:Nat
 n:Nat
 live:List Nat
 d:Nat
def Fr.mis (F:Fr):Nat:=(F.T+F.d+1)*1000
def Fr.it (F:Fr):Nat:=(F.T+1)*1000+500
def Fr.box (F:Fr):List Nat:=[F.mis+2,F.mis+3,F.T+2,F.T+3,F.T+4]
structure Up where
 o:Nat
 fr:List (Nat×List Nat)
 box:List Nat
 maps:List Nat
abbrev q7m:List Nat:=[0,1,2,4,5,6,11,12,13,20,21,22,29]
def Up.keep (U:Up) (F:Fr) (live:List Nat) (ahead:List (Nat×List Nat)):Keep:={ live:=live,sav:=savK 0 (ahead++[(F.n,F.live)]++U.fr),box:=F.box++[lisO U.o+10,U.o+31]++U.box,lp:=[2,3,4] }
def R.Get.q6m (U:Up) (st:St):q02:=Get.mapOf q6v (.one .bool) (U.o+28) st
def R.Get.q17 (st:St):q04:=Get.famOf q6v kGiv st
def R.Get.doorsAt (U:Up) (st:St):q0c:=Get.mapOf (.one .str) (.one .bool) (U.o+32) st
def R.Get.q4r (U:Up) (st:St):q03:=Get.mapOf (.one (.int .i64)) (.one (.sl (.one (.int .i64)))) (lisO U.o+7) st
def R.Get.seenAt (F:Fr) (st:St):q02:=Get.mapOf q6v (.one .bool) (F.T+14) st
def R.Get.gAt (F:Fr) (st:St):Cod.Giv:=Get.boxOf kGiv (F.T+3) st
def R.q40 (U:Up) (st:St) (m:q03):List (Nat×MRow):=[(lisO U.o+7,q5p m),(U.o+28,q43 (Get.q6m U st)),(U.o+32,qf9 (Get.doorsAt U st))]
def anShelve (U:Up) (e:Cod.Ear) (book:q0k):List (Nat×Ann) :=
 [annG 0 (Nat×q03×q02×q0c×q04) (fun st p=>st.hd { live:=[3,10,11,33,34],sav:=savK 0 (U.fr.drop 1),box:=[U.o+3,lisO U.o+10,U.o+31]++U.box } [(35,R.int .i64 p.1)] [] [] [(lisO U.o+7,q5p p.2.1),(U.o+28,q43 p.2.2.1),(U.o+32,qf9 p.2.2.2.1)] (some (q19 p.2.2.2.2)))
  (fun p=>p.1≤book.length∧q09 e p.2.1∧q29 (book.take p.1) p.2.2.1∧q2c (book.take p.1) p.2.2.2.1∧q2f e (book.take p.1) p.2.2.2.2∧e.shelf [] (book.take p.1)=true) (fun p=>book.length-p.1),
 cutG 2 Unit (fun st _=>st.hd { live:=[2,3],sav:=savK 0 (U.fr.drop 1),box:=[U.o+3]++U.box } [(8,.c (.one (.ptr (lisO U.o+10) 0))),(9,.c (.one (.val .bool (Snd.q0j e.lang e.ws&&Snd.q0o e.c))))] [(lisO U.o+10,[.val .str e.lang,.val (.sl (.one .str)) e.ws,.mref (lisO U.o+7),.val (.sl kCf) e.c])] [] [(lisO U.o+7,q5p [])] none) (fun _=>True),
 annX 2000009 (Nat×q03×q02×q0c×q04×Cod.Giv) (fun st p=>st.hd { live:=[3,10,11,33,34],sav:=savK 0 (U.fr.drop 1),box:=[U.o+3,lisO U.o+10,U.o+31]++U.box } [(13,.c (.one (.ptr (U.o+13) 0))),(35,R.int .i64 p.1)] [(U.o+13,kGiv.cells p.2.2.2.2.2)] [] [(lisO U.o+7,q5p p.2.1),(U.o+28,q43 p.2.2.1),(U.o+32,qf9 p.2.2.2.1)] (some (q19 p.2.2.2.2.1)))
  (fun st p=>p.1=(st.intOf 35).toNat∧p.1<book.length∧p.2.2.2.2.2=book.getD p.1 ([],[],false,0,0)∧q09 e p.2.1∧q29 (book.take p.1) p.2.2.1∧q2c (book.take p.1) p.2.2.2.1∧q2f e (book.take p.1) p.2.2.2.2.1∧e.shelf [] (book.take p.1)=true) (fun _ _=>0),
 annX 2000011 (Nat×q03×q02×q0c×q04×Cod.Giv) (fun st p=>st.hd { live:=[3,10,11,33,34],sav:=savK 0 (U.fr.drop 1),box:=[U.o+3,lisO U.o+10,U.o+31]++U.box } [(13,.c (.one (.ptr (U.o+13) 0))),(35,R.int .i64 p.1)] [(U.o+13,kGiv.cells p.2.2.2.2.2)] [] [(lisO U.o+7,q5p p.2.1),(U.o+28,q43 p.2.2.1),(U.o+32,qf9 p.2.2.2.1)] (some (q19 p.2.2.2.2.1)))
  (fun st p=>p.1=(st.intOf 35).toNat∧p.1<book.length∧p.2.2.2.2.2=book.getD p.1 ([],[],false,0,0)∧q09 e p.2.1∧q29 (book.take p.1) p.2.2.1∧q2c (book.take p.1) p.2.2.2.1∧q2f e (book.take p.1) p.2.2.2.2.1∧e.shelf [] (book.take (p.1+1))=true) (fun _ _=>0)]
def anIter (U:Up) (Ft Fp:Fr) (e:Cod.Ear):List (Nat×Ann) :=
 [annX 0 (Nat×q03×q02×q04)
    (fun st p=>bif st.off.beq Ft.it then st.hd (U.keep Ft [0,1,2,4,11,12] []) [(13,R.int .i64 p.1)] [] [] (q40 U st p.2.1) (some (q19 (Get.q17 st)))
     else st.hd (U.keep Fp [0,1,2,4,11,12] []) [(13,R.int .i64 p.1)] [] [] ((Fp.T+14,q43 p.2.2.1)::q40 U st p.2.1) (some (q19 p.2.2.2)))
    (fun st p=>bif st.off.beq Ft.it then p.1≤(Get.gAt Ft st).2.1.length∧q09 e p.2.1∧(e.q0i (Get.gAt Ft st).2.1 p.1 0).all (q0w (Get.q6m U st) (Get.q17 st) (Get.gAt Ft st))=true
     else p.1≤(Get.gAt Fp st).2.1.length∧q09 e p.2.1∧q0v (Get.seenAt Fp st) (Get.q17 st) (Get.gAt Fp st) (e.q0i (Get.gAt Fp st).2.1 p.1 0) p.2.2.1 p.2.2.2)
    (fun st p=>bif st.off.beq Ft.it then (Get.gAt Ft st).2.1.length-p.1 else (Get.gAt Fp st).2.1.length-p.1),
 annX 2 (Nat×q02×q04)
    (fun st p=>bif st.off.beq Ft.it then st.hd (U.keep Ft [0,1,2,4,5,6,11,12,13,20,21] []) [(22,R.int .i64 p.1)] [] [] (q40 U st (Get.q4r U st)) (some (q19 (Get.q17 st)))
     else st.hd (U.keep Fp [0,1,2,4,5,6,11,12,13,20,21] []) [(22,R.int .i64 p.1)] [] [] ((Fp.T+14,q43 p.2.1)::q40 U st (Get.q4r U st)) (some (q19 p.2.2)))
    (fun st p=>bif st.off.beq Ft.it then p.1≤(e.near (st.intOf 6)).length∧(q0x e (Get.gAt Ft st).2.1 (st.intOf 5).toNat p.1).all (q0w (Get.q6m U st) (Get.q17 st) (Get.gAt Ft st))=true
     else p.1≤(e.near (st.intOf 6)).length∧q0v (Get.seenAt Fp st) (Get.q17 st) (Get.gAt Fp st) (q0x e (Get.gAt Fp st).2.1 (st.intOf 5).toNat p.1) p.2.1 p.2.2)
    (fun st p=>(e.near (st.intOf 6)).length-p.1),
 annX 2000010 (q02×q04)
    (fun st p=>bif st.off.beq Ft.it then st.hd (U.keep Ft [0,1,2,4,5,6,11,12,13] []) [] [] [] (q40 U st (Get.q4r U st)) (some (q19 (Get.q17 st)))
     else st.hd (U.keep Fp [0,1,2,4,5,6,11,12,13] []) [] [] [] ((Fp.T+14,q43 p.1)::q40 U st (Get.q4r U st)) (some (q19 p.2)))
    (fun st p=>bif st.off.beq Ft.it then q0w (Get.q6m U st) (Get.q17 st) (Get.gAt Ft st) ((Get.gAt Ft st).2.1.eraseIdx (st.intOf 5).toNat)=true
     else q0v (Get.seenAt Fp st) (Get.q17 st) (Get.gAt Fp st) [(Get.gAt Fp st).2.1.eraseIdx (st.intOf 5).toNat] p.1 p.2)
    (fun _ _=>0)]
def anHeard (U:Up) (Ft Fp:Fr) (e:Cod.Ear):List (Nat×Ann) :=
 [annX 2000005 (q03)
    (fun st p=>bif st.off.beq ((Ft.it+21)*1000) then st.hd (U.keep Ft [] [(77,q7m)]) [(5,.c (.one (.val (.sl (.one (.int .i64))) (e.near (st.intOf 1)))))] [] [] (q40 U st p) (some (q19 (Get.q17 st)))
     else st.hd (U.keep Fp [] [(77,q7m)]) [(5,.c (.one (.val (.sl (.one (.int .i64))) (e.near (st.intOf 1)))))] [] [] ((Fp.T+14,q43 (Get.seenAt Fp st))::q40 U st p) (some (q19 (Get.q17 st))))
    (fun _ p=>q09 e p)
    (fun _ _=>0)]
def anFind (U:Up) (Ft:Fr):List (Nat×Ann) :=
 [annX 0 (Nat)
    (fun st p=>st.hd (U.keep Ft [0,1,7] [(9,[]),(Ft.n,[2,3,4,43]),(77,q7m)]) [(8,R.int .i64 p)] [] [] (q40 U st (Get.q4r U st)) (some (q19 (Get.q17 st))))
    (fun st p=>p≤(Get.entOf kGiv 0 st).length∧((Get.entOf kGiv 0 st).take p).any (fun o=>Cod.q0q o (Get.cloOf kGiv 1 st))=false)
    (fun st p=>(Get.entOf kGiv 0 st).length-p)]
def anCo (U:Up) (Ft Fp:Fr) (e:Cod.Ear) (book:q0k):Nat→List (Nat×Ann):=fun f =>
 bif Nat.beq f 57 then anShelve U e book
 else bif Nat.beq f 117 then anIter U Ft Fp e
 else bif Nat.beq f 120 then anHeard U Ft Fp e
 else bif Nat.beq f 108 then anFind U Ft
 else []
def frT (o:Nat):Fr:={ T:=(o+65)*1000,n:=53,live:=[4],d:=33 }
def frP (o:Nat):Fr:={ T:=(o+73)*1000,n:=42,live:=[],d:=21 }
def upP:Up:={ o:=14000,fr:=[(75,[3,10,11,13,33,34,35,61])],box:=[14003,14013],maps:=[] }
end Go.Proofs.YtfecgebhoondjaaGreatDoor

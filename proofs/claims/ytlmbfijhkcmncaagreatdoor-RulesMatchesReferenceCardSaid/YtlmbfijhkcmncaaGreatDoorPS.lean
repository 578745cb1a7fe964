/-
  Several texts in one: LexWidth, Ref04A, Ref04C, Ref04D, Ref04E, Ref04L, RmF, RmG, RmH, RmJ, RmK.
-/
import Derived.Test.YtlmbfijhkcmncaaGreatDoorPM
import Derived.Test.YtlmbfijhkcmncaaGreatDoorPD
import Derived.Test.YtlmbfijhkcmncaaGreatDoorPO
import Derived.Test.YtlmbfijhkcmncaaGreatDoorPL
import Derived.Test.YtlmbfijhkcmncaaGreatDoorPQ
import Derived.Deep.CutRange
import Derived.Deep.CutBlock
import Derived.StillTailTactics
import Derived.RegionTactic
import Derived.BigRegion
import Derived.Test.YtlmbfijhkcmncaaGreatDoorPR
import Derived.Test.YtlmbfijhkcmncaaGreatDoorPP
import Derived.Lib.OwnBridge
open Go.Lib renaming hid→Q0
open List renaming take→Q3,drop_eq_nil_of_le→Q8,map→Q9,length_append→Qe,head?_cons→Qf,drop_drop→Qg,mem_singleton→Qh,mem_cons→Qi,getElem?_eq_some_iff→Qj,getElem?_eq_getElem→Qk,length_singleton→Ql,takeWhile_prefix→Qm,getElem?_drop→Qp,take_add_one→Qr,length_drop→Qu
open UInt8 renaming toNat_lt→Q7,toNat_inj→Qa
open Go.Op renaming bytesLess→Qb
open Nat renaming add_sub_cancel_left→Qc,le_refl→Qs,zero_le→Qt
open Bool renaming and_eq_true→Qd,false_eq_true→Qo,eq_iff_iff→Qv
open Go.RowKit renaming Hid→Qn
open Int renaming lt_of_lt_of_le→Qq
set_option linter.unusedVariables false
namespace Go.Proofs.YtlmbfijhkcmncaaGreatDoor
open Go.RowKit
attribute [local go_sem] q12 q0q q0s
theorem width_any (k p n:Int) (s:ByteArray) (w:World) (hs:s.size≤4611686018427387904) :
  Calls Tryz.prog 66 #[.agg #[.int .i64 k,.int .i64 p,.int .i64 n,.string s]] w λe w' =>
   e=.returned (.int .i64 ((Lx.Tok.written ⟨k,p,n,s.data.toList⟩).length:Nat))∧Below w.heap.size w w':=by
 rw [Lx.q9w];simp only [];by_cases hk:k=3
 ·have hk':(k==3)=true:=by rw [beq_iff_eq];exact hk
  rw [if_pos hk,← q0c];clear hk
  go_enter Tryz.func66,Tryz.ntmps66
  go_wp2
  go_ret
  exact ⟨rfl,q02 (q03 w) _⟩
 ·have hk':(k==3)=false:=by rw [beq_eq_false_iff_ne];exact hk
  rw [if_neg hk,← q0c];clear hk
  go_enter Tryz.func66,Tryz.ntmps66
  go_wp2
  go_ret
  exact ⟨rfl,q02 (q03 w) _⟩
theorem width_w (k p n:Int) (l:List UInt8) (W:List UInt8) (hW:Lx.Tok.written ⟨k,p,n,l⟩=W) (w:World) (hs:l.length≤4611686018427387904) :
  Calls Tryz.prog 66 #[.agg #[.int .i64 k,.int .i64 p,.int .i64 n,.string (bs l)]] w λe w'=>e=.returned (.int .i64 (W.length:Nat))∧Below w.heap.size w w':=by
 subst hW;exact width_any k p n (bs l) w hs
end Go.Proofs.YtlmbfijhkcmncaaGreatDoor
namespace Go.Proofs.YtlmbfijhkcmncaaGreatDoor
open Go.RowKit
attribute [local go_sem] q12 q0q q0s
def hasB (l:List UInt8) (c:UInt8):Bool:=l.contains c
set_option maxHeartbeats 400000 in
theorem q36 (s:ByteArray) (c:UInt8) (w:World) (hs:s.size≤4611686018427387904):Calls Tryz.prog 93 #[.string s,.int .u8 c.toNat] w λe w'=>e=.returned (.bool (hasB s.data.toList c))∧w'=w:=by
 go_enter Tryz.func93,Tryz.ntmps93
 go_wp2
 go_loop [5] (λi=>∃ k:Nat,k≤s.size∧i=.int .i64 k∧hasB s.data.toList c=hasB (s.data.toList.drop k) c) (λi=>s.size-(intOf i).toNat)
 case atStart=>exact ⟨0,by omega,rfl,rfl⟩
 case round =>
  obtain ⟨k,hk,rfl,hc⟩:=hrel;have HC:=Q0 hc;clear hc;by_cases hlt:k<s.size
  ·have hd:=q10 s k hlt
   have HD:=Q0 hd;clear hd;have hb:s[k].toNat<256:=Q7 s[k];by_cases he:s[k]=c
   ·have he':((s[k].toNat:Int)==(c.toNat:Int))=true:=by rw [he];simp
    have HE:=Q0 he;clear he
    go_wp2
    go_ret
    refine ⟨?_,rfl⟩;rw [HC.out,HD.out,HE.out];exact q1j (by simp [hasB])
   ·have he':((s[k].toNat:Int)==(c.toNat:Int))=false:=by
     rw [beq_eq_false_iff_ne];intro h;exact he (Qa.1 (by omega))
    have HE:=Q0 he;clear he
    go_wp2
    go_round
    case rel =>
     refine ⟨k+1,by omega,by go_num,?_⟩
     rw [HC.out,HD.out];have:=HE.out;simp [hasB];intro h;exact absurd h.symm this
    case measure=>simp [intOf];omega
  ·have hk2:k=s.size:=by omega
   have hd:s.data.toList.drop k=[]:=Q8 (by rw [← q0c];omega)
   have HD:=Q0 hd;clear hd;have HK:=Q0 hk2;clear hk2
   go_wp2
   go_ret
   refine ⟨?_,rfl⟩;rw [HC.out,HD.out];rfl
set_option maxRecDepth 100000 in
set_option maxHeartbeats 1000000 in
theorem rgap_any (s:ByteArray) (i:Int) (w:World) (hs:s.size≤4611686018427387904) (hi0:0≤i) (hi:i≤s.size) :
  Calls Tryz.prog 64 #[.string s,.int .i64 i] w λe w'=>e=.returned (.int .i64 (i.toNat+Lx.gap (s.data.toList.drop i.toNat):Nat))∧∃ n,w'=w.drewN n:=by
 obtain ⟨i,rfl⟩:=Int.eq_ofNat_of_zero_le hi0;rw [Int.toNat_natCast];have hi':i≤s.size:=by omega
 clear hi hi0
 go_enter Tryz.func64,Tryz.ntmps64
 go_wp2
 go_loopw [1] (λv wr=>∃ k n:Nat,k≤s.size∧v=.int .i64 k∧wr=w.drewN n∧i+Lx.gap (s.data.toList.drop i)=k+Lx.gapc false (s.data.toList.drop k)) (λv _=>s.size-(intOf v).toNat)
 case atStart=>exact ⟨i,0,hi',rfl,rfl,rfl⟩
 case round =>
  obtain ⟨k,n,hk,rfl,rfl,hr⟩:=hrel;have HR:=Q0 hr;clear hr hi';by_cases hlt:k<s.size
  ·have hd:=q10 s k hlt
   have hb:s[k].toNat<256:=Q7 s[k];have hblank:hasB [32,9,10] s[k]=Lx.q2g s[k]:=by
    have h:=Lx.q3u (λc=>hasB [32,9,10] c==Lx.q2g c) (by decide +kernel) s[k]
    rwa [beq_iff_eq] at h
   have HD:=Q0 hd;clear hd;cases hq:Lx.q2g s[k]
   ·rw [hq] at hblank
    have HQ:=Q0 hq;have HB:=Q0 hblank;clear hq hblank;by_cases h35:s[k]=35
    ·have h35':((s[k].toNat:Int)==35)=true:=by rw [h35];rfl
     have H35:=Q0 h35;clear h35
     go_wp2_with fail
     refine (q36 _ s[k] _ (by show 3≤_;omega)).mono ?_
     rintro e w' ⟨rfl,rfl⟩;rw [show (({ data:=#[32,9,10] }:ByteArray).data.toList)=[32,9,10] from rfl,HB.out]
     go_wp2
     go_loopw [1] (λv wq=>∃ j m:Nat,k≤j∧j≤s.size∧v=.int .i64 j∧wq=w.drewN m∧i+Lx.gap (s.data.toList.drop i)=j+Lx.gapc true (s.data.toList.drop j)) (λv _=>s.size-(intOf v).toNat)
     case atStart =>
      refine ⟨k,n,Qs _,hk,rfl,rfl,?_⟩;rw [HR.out,HD.out,H35.out];rfl
     case round =>
      obtain ⟨j,m,hkj,hj,rfl,rfl,hr2⟩:=hrel;have HR2:=Q0 hr2;clear hr2;by_cases hjl:j<s.size
      ·have hd:=q10 s j hjl
       have HD2:=Q0 hd;clear hd;have hb2:s[j].toNat<256:=Q7 s[j];by_cases h10:s[j]=10
       ·have h10':((s[j].toNat:Int) != 10)=false:=by rw [h10];rfl
        have hkj2:k≠j:=by
         rintro rfl;rw [H35.out] at h10;cases h10
        have H10:=Q0 h10;clear h10
        go_wp2
        go_roundw
        case rel =>
         refine ⟨j,_,hj,rfl,rfl,?_⟩;rw [HR2.out,HD2.out,H10.out];rfl
        case measure=>simp [intOf];omega
       ·have h10':((s[j].toNat:Int) != 10)=true:=by
         rw [bne_iff_ne];intro h;exact h10 (Qa.1 (by show _=10;omega))
        have h10b:(s[j]==10)=false:=by simpa using h10
        have H10:=Q0 h10b;clear h10 h10b
        go_wp2
        go_roundw
        case rel =>
         refine ⟨j+1,_,by omega,by omega,by go_num,rfl,?_⟩
         rw [HR2.out,HD2.out];simp only [Lx.gapc,H10.out,Qo,if_false];omega
        case measure=>simp [intOf];omega
      ·have hd:s.data.toList.drop j=[]:=Q8 (by rw [← q0c];omega)
       have HD2:=Q0 hd;clear hd
       go_wp2
       go_roundw
       case rel =>
        refine ⟨j,_,hj,rfl,rfl,?_⟩;rw [HR2.out,HD2.out];rfl
       case measure=>simp [intOf];omega
    ·have h35':((s[k].toNat:Int)==35)=false:=by
      rw [beq_eq_false_iff_ne];intro h;exact h35 (Qa.1 (by show _=35;omega))
     have h35b:(s[k]==35)=false:=by simpa using h35
     have H35:=Q0 h35b;clear h35 h35b
     go_wp2_with fail
     refine (q36 _ s[k] _ (by show 3≤_;omega)).mono ?_
     rintro e w' ⟨rfl,rfl⟩;rw [show (({ data:=#[32,9,10] }:ByteArray).data.toList)=[32,9,10] from rfl,HB.out]
     go_wp2
     go_ret
     refine ⟨?_,_,rfl⟩;rw [HR.out,HD.out];simp only [Lx.gapc,HQ.out,H35.out,Qo,if_false];rfl
   ·rw [hq] at hblank
    have HQ:=Q0 hq;have HB:=Q0 hblank;clear hq hblank
    go_wp2_with fail
    refine (q36 _ s[k] _ (by show 3≤_;omega)).mono ?_
    rintro e w' ⟨rfl,rfl⟩;rw [show (({ data:=#[32,9,10] }:ByteArray).data.toList)=[32,9,10] from rfl,HB.out]
    go_wp2
    go_roundw
    case rel =>
     refine ⟨k+1,_,by omega,by go_num,rfl,?_⟩
     rw [HR.out,HD.out];simp only [Lx.gapc,HQ.out,if_true];omega
    case measure=>simp [intOf];omega
  ·have hd:s.data.toList.drop k=[]:=Q8 (by rw [← q0c];omega)
   have HD:=Q0 hd;clear hd
   go_wp2
   go_ret
   refine ⟨?_,_,rfl⟩;rw [HR.out,HD.out];rfl
end Go.Proofs.YtlmbfijhkcmncaaGreatDoor
namespace Go.Proofs.YtlmbfijhkcmncaaGreatDoor
open Go.RowKit
attribute [local go_sem] q12 q0q q0s
set_option maxRecDepth 100000 in
set_option maxHeartbeats 2000000 in
theorem rnext_letter (s:ByteArray) (i:Nat) (w:World) (hs:s.size≤4611686018427387904) (hi:i<s.size) (hl:Lx.q17 s[i]=true) :
  Calls Tryz.prog 65 #[.string s,.int .i64 i] w λe w' =>
   e=.returned (.tuple #[(Lx.scan (s.data.toList.drop i)).out i,.int .i64 (Lx.scan (s.data.toList.drop i)).err])∧Below w.heap.size w w':=by
 have hd:=q10 s i hi;have hsc:Lx.scan (s.data.toList.drop i)=if 24<Lx.span Lx.isWord (s.data.toList.drop (i+1))+1 then Lx.bad 2 else ⟨0,1,0,(s.data.toList.drop i).take (Lx.span Lx.isWord (s.data.toList.drop (i+1))+1),Lx.span Lx.isWord (s.data.toList.drop (i+1))+1⟩:=by
  rw [hd,Lx.scan,if_pos hl]
 have HSC:=Q0 hsc;have HL:=Q0 hl;clear hsc hd hl;have hb0:s[i].toNat<256:=Q7 s[i]
 go_enter Tryz.func65,Tryz.ntmps65
 go_wp2_with fail
 refine (q2d s[i] _).mono ?_;rintro e w' ⟨rfl,rfl⟩;rw [HL.out]
 go_wp2_with fail
 go_loop [6] (λv=>∃ k:Nat,i+1≤k∧k≤s.size∧v=.int .i64 k∧i+1+Lx.span Lx.isWord (s.data.toList.drop (i+1))=k+Lx.span Lx.isWord (s.data.toList.drop k)) (λv=>s.size-(intOf v).toNat)
 case atStart=>exact ⟨i+1,by omega,by omega,by go_num,rfl⟩
 case round =>
  obtain ⟨k,hk1,hk2,rfl,hr⟩:=hrel;have HR:=Q0 hr;clear hr;by_cases hlt:k<s.size
  ·have hdk:=q10 s k hlt
   have HDK:=Q0 hdk;clear hdk;have hbk:s[k].toNat<256:=Q7 s[k];cases hwd:Lx.isWord s[k]
   ·have he:i+1+Lx.span Lx.isWord (s.data.toList.drop (i+1))=k:=by rw [HR.out,HDK.out,Lx.q63 hwd];rfl
    have HE:=Q0 he;have HWD:=Q0 hwd;clear hwd HR
    go_wp2_with fail
    refine (qak s[k] _).mono ?_;rintro e w' ⟨rfl,rfl⟩;rw [HWD.out];have hm:Lx.span Lx.isWord (s.data.toList.drop (i+1))+1=k-i:=by omega
    have HSC2:Qn (Lx.scan (s.data.toList.drop i)=if 24<k-i then Lx.bad 2 else ⟨0,1,0,(s.data.toList.drop i).take (k-i),k-i⟩):=Q0 (by rw [← hm];exact HSC.out)
    clear hm HSC HE;by_cases h24:24<k-i
    ·have h24':24<(k:Int)-(i:Int):=by omega
     go_wp2
     refine bodyPost_ret (v:=.tuple #[.agg #[.int .i64 0,.int .i64 0,.int .i64 0,.string { data:=#[] }],.int .i64 2]) (by simp [results,Tryz.results65,go_sem]) rfl ⟨?_,?_⟩
     ·rw [HSC2.out,if_pos h24];rfl
     ·exact q02 (q02 (q03 w) _) _
    ·have h24':¬ (24<(k:Int)-(i:Int)):=by omega
     have hx:=q1i s i k
     go_wp2
     refine bodyPost_ret (v:=.tuple #[.agg #[.int .i64 1,.int .i64 i,.int .i64 0,.string (bs ((s.data.toList.drop i).take (k-i)))],.int .i64 0]) ?_ rfl ⟨?_,?_⟩
     ·simp [results,Tryz.results65,go_sem]
     ·rw [HSC2.out,if_neg h24];rfl
     ·exact q02 (q02 (q03 w) _) _
   ·have he:i+1+Lx.span Lx.isWord (s.data.toList.drop (i+1))=k+1+Lx.span Lx.isWord (s.data.toList.drop (k+1)):=by rw [HR.out,HDK.out,Lx.q51 hwd];omega
    have HE:=Q0 he;have HWD:=Q0 hwd;clear hwd HR he
    go_wp2_with fail
    refine (qak s[k] _).mono ?_;rintro e w' ⟨rfl,rfl⟩;rw [HWD.out]
    go_wp2
    go_round
    case rel=>exact ⟨k+1,by omega,by omega,by go_num,HE.out⟩
    case measure=>simp [intOf];omega
  ·have hdk:s.data.toList.drop k=[]:=Q8 (by rw [← q0c];omega)
   have he:i+1+Lx.span Lx.isWord (s.data.toList.drop (i+1))=k:=by rw [HR.out,hdk];rfl
   have HE:=Q0 he;clear hdk HR;have hm:Lx.span Lx.isWord (s.data.toList.drop (i+1))+1=k-i:=by omega
   have HSC2:Qn (Lx.scan (s.data.toList.drop i)=if 24<k-i then Lx.bad 2 else ⟨0,1,0,(s.data.toList.drop i).take (k-i),k-i⟩):=Q0 (by rw [← hm];exact HSC.out)
   clear hm HSC HE;by_cases h24:24<k-i
   ·have h24':24<(k:Int)-(i:Int):=by omega
    go_wp2
    refine bodyPost_ret (v:=.tuple #[.agg #[.int .i64 0,.int .i64 0,.int .i64 0,.string { data:=#[] }],.int .i64 2]) (by simp [results,Tryz.results65,go_sem]) rfl ⟨?_,?_⟩
    ·rw [HSC2.out,if_pos h24];rfl
    ·exact q02 (q02 (q03 w) _) _
   ·have h24':¬ (24<(k:Int)-(i:Int)):=by omega
    have hx:=q1i s i k
    go_wp2
    refine bodyPost_ret (v:=.tuple #[.agg #[.int .i64 1,.int .i64 i,.int .i64 0,.string (bs ((s.data.toList.drop i).take (k-i)))],.int .i64 0]) ?_ rfl ⟨?_,?_⟩
    ·simp [results,Tryz.results65,go_sem]
    ·rw [HSC2.out,if_neg h24];rfl
    ·exact q02 (q02 (q03 w) _) _
end Go.Proofs.YtlmbfijhkcmncaaGreatDoor
namespace Go.Proofs.YtlmbfijhkcmncaaGreatDoor
open Go.RowKit
attribute [local go_sem] q12 q0q q0s
theorem dec_step (s:ByteArray) (i j:Nat) (h1:i≤j) (h:j<s.size):Lx.q2v ((s.data.toList.drop i).take (j+1-i))=10*Lx.q2v ((s.data.toList.drop i).take (j-i))+(s[j].toNat-48):=by
 have e:j+1-i=(j-i)+1:=by omega
 have hx:=q7y s j h;rw [e,Qr,Qp,show i+(j-i)=j from by omega,hx]
 simp [Lx.q2v,List.foldl_append]
theorem qhu (s:ByteArray) (i k:Nat) (hm:Lx.span Lx.isDigit (s.data.toList.drop i)=k-i):∀ j,i≤j→j<k→∀ h:j<s.size,48≤s[j].toNat∧s[j].toNat≤57:=by
 intro j h1 h2 h3;have hx:=q7y s j h3;have ht:=Lx.qh8 Lx.isDigit (s.data.toList.drop i) s[j] (by
  rw [hm];refine List.mem_of_getElem? (i:=j-i) ?_;rw [List.getElem?_take,if_pos (by omega),Qp,show i+(j-i)=j from by omega,hx])
 unfold Lx.isDigit at ht;rw [Qd] at ht;have a:=of_decide_eq_true ht.1;have b:=of_decide_eq_true ht.2;exact ⟨a,b⟩
theorem dec_bound (s:ByteArray) (i k j:Nat) (hm:Lx.span Lx.isDigit (s.data.toList.drop i)=k-i) (h13:k-i≤13) (h1:i≤j) (h2:j≤k):Lx.q2v ((s.data.toList.drop i).take (j-i))<10000000000000:=by
 have hd:∀ c∈(s.data.toList.drop i).take (j-i),Lx.isDigit c=true:=by
  intro c hc;refine Lx.qh8 Lx.isDigit (s.data.toList.drop i) c ?_;rw [hm];have e:(s.data.toList.drop i).take (j-i)=((s.data.toList.drop i).take (k-i)).take (j-i):=by rw [List.take_take];congr 1;omega
  rw [e] at hc;exact List.mem_of_mem_take hc
 have h:=Lx.decVal_lt _ hd;have hl:((s.data.toList.drop i).take (j-i)).length≤13:=by rw [List.length_take];omega
 have:=Nat.pow_le_pow_right (n:=10) (by omega) hl
 omega
set_option maxRecDepth 100000 in
set_option maxHeartbeats 4000000 in
theorem rnext_digit (s:ByteArray) (i:Nat) (w:World) (hs:s.size≤4611686018427387904) (hi:i<s.size) (hl:Lx.cls s[i]=4) :
  Calls Tryz.prog 65 #[.string s,.int .i64 i] w λe w' =>
   e=.returned (.tuple #[(Lx.scan (s.data.toList.drop i)).out i,.int .i64 (Lx.scan (s.data.toList.drop i)).err])∧Below w.heap.size w w':=by
 have hd:=q10 s i hi;have hl1:Lx.q17 s[i]=false:=by rw [Lx.q3s,hl];rfl
 have hl2:Lx.isDigit s[i]=true:=by rw [Lx.q3x,hl];rfl
 have hsc:=Lx.qkd s[i] (s.data.toList.drop (i+1)) hl;rw [← hd,Qg] at hsc;have hsp:Lx.span Lx.isDigit (s.data.toList.drop i)=Lx.span Lx.isDigit (s.data.toList.drop (i+1))+1:=by rw [hd,Lx.q51 hl2]
 have HSC:=Q0 hsc;have HSP:=Q0 hsp;have HL1:=Q0 hl1;have HL2:=Q0 hl2;clear hsc hd hl1 hl2 hl hsp;have hb0:s[i].toNat<256:=Q7 s[i]
 go_enter Tryz.func65,Tryz.ntmps65
 go_wp2_with fail
 refine (q2d s[i] _).mono ?_;rintro e w' ⟨rfl,rfl⟩;rw [HL1.out]
 go_wp2_with fail
 refine (q2j s[i] _).mono ?_;rintro e w' ⟨rfl,rfl⟩;rw [HL2.out]
 go_wp2_with fail
 go_loop [6] (λv=>∃ k:Nat,i+1≤k∧k≤s.size∧v=.int .i64 k∧i+1+Lx.span Lx.isDigit (s.data.toList.drop (i+1))=k+Lx.span Lx.isDigit (s.data.toList.drop k)) (λv=>s.size-(intOf v).toNat)
 case atStart=>exact ⟨i+1,by omega,by omega,by go_num,rfl⟩
 case round =>
  obtain ⟨k,hk1,hk2,rfl,hr⟩:=hrel;have HR:=Q0 hr;clear hr;by_cases hlt:k<s.size
  ·have hdk:=q10 s k hlt
   have HDK:=Q0 hdk;clear hdk;have hbk:s[k].toNat<256:=Q7 s[k];cases hwd:Lx.isDigit s[k]
   ·have he:i+1+Lx.span Lx.isDigit (s.data.toList.drop (i+1))=k:=by rw [HR.out,HDK.out,Lx.q63 hwd];rfl
    have HE:=Q0 he;have HWD:=Q0 hwd;clear hwd HR;have hm:Lx.span Lx.isDigit (s.data.toList.drop i)=k-i:=by rw [HSP.out];omega
    have hk0:i+(k-i)=k:=by omega
    have hsc2:=HSC.out;rw [hm,hk0] at hsc2;have hdg:∀ j,i≤j→j<k→∀ h:j<s.size,48≤s[j].toNat∧s[j].toNat≤57:=qhu s i k hm;have hstep:∀ j,i≤j→j<k→∀ h:j<s.size,Lx.q2v ((s.data.toList.drop i).take (j+1-i))=10*Lx.q2v ((s.data.toList.drop i).take (j-i))+(s[j].toNat-48):=λj h1 h2 h3=>dec_step s i j h1 h3
    have hlt:k-i≤13→∀ j,i≤j→j≤k→Lx.q2v ((s.data.toList.drop i).take (j-i))<10000000000000:=λh13 j h1 h2=>dec_bound s i k j hm h13 h1 h2
    have HDIG:=Q0 hdg;have HSTEP:=Q0 hstep;have HLT0:=Q0 hlt;clear HSC hm hk0 hdg hstep hlt HSP;have HSC:=Q0 hsc2;clear hsc2;clear he;by_cases h13:13<k-i
    ·have h13':13<(k:Int)-(i:Int):=by omega
     go_wp2_with fail
     refine (q2j s[k] _).mono ?_;rintro e w' ⟨rfl,rfl⟩;rw [HWD.out]
     go_wp2_with fail
     refine bodyPost_ret (v:=.tuple #[.agg #[.int .i64 0,.int .i64 0,.int .i64 0,.string { data:=#[] }],.int .i64 4]) (by simp [results,Tryz.results65,go_sem]) rfl ⟨?_,?_⟩
     ·rw [HSC.out,if_pos (by simp [h13])];rfl
     ·exact q02 (q02 (q03 w) _) _
    ·have h13':¬ (13<(k:Int)-(i:Int)):=by omega
     have HLT:=Q0 (HLT0.out (by omega))
     have hcl:Lx.q1w (s.data.toList.drop k)=Lx.cls s[k]:=by rw [HDK.out];rfl
     have hwb:Lx.isWord s[k]=(Lx.cls s[k]==3||Lx.cls s[k]==5):=by
      rw [Lx.qjg];have:=HWD.out;rw [Lx.q3x] at this;rw [this,Bool.or_false]
     have HCL:=Q0 hcl;clear hcl;cases hb:(Lx.cls s[k]==3||Lx.cls s[k]==5)
     ·rw [hb] at hwb
      have HB:=Q0 hb;have HWB:=Q0 hwb;clear hb hwb
      go_wp2_with fail
      refine (q2j s[k] _).mono ?_;rintro e w' ⟨rfl,rfl⟩;rw [HWD.out]
      go_wp2_with fail
      refine (qak s[k] _).mono ?_;rintro e w' ⟨rfl,rfl⟩;rw [HWB.out];have H14:Qn (Lx.scan (s.data.toList.drop i)=⟨0,2,Lx.q2v ((s.data.toList.drop i).take (k-i)),(s.data.toList.drop i).take (k-i),k-i⟩):=Q0 (by rw [HSC.out,HCL.out,if_neg (by rw [Bool.or_assoc,HB.out];simp;omega)])
      clear HSC HE
      go_wp2_with fail
      go_loopw [9] (λv wr=>∃ j n:Nat,i≤j∧j≤k∧v=.int .i64 j∧wr=((w.alloc (.cells #[.int .i64 0,.int .i64 0,.int .i64 0,.string { data:=#[] }] 89)).alloc (.cells #[.int .i64 2,.int .i64 i,.int .i64 (Lx.q2v ((s.data.toList.drop i).take (j-i))),.string { data:=#[] }] 89)).drewN n) (λv _=>k-(intOf v).toNat)
      case atStart=>exact ⟨i,0,by omega,by omega,rfl,by rw [Nat.sub_self];rfl⟩
      case round =>
       obtain ⟨j,n,hj1,hj2,rfl,rfl⟩:=hrel;by_cases hjk:j<k
       ·have hjs:j<s.size:=by omega
        have hbj:s[j].toNat<256:=Q7 s[j];obtain ⟨d1,d2⟩:=HDIG.out j hj1 hjk hjs;have hst:=HSTEP.out j hj1 hjk hjs;have HST:=Q0 hst;have hlt:=HLT.out j hj1 hj2;clear hst;generalize Lx.q2v ((s.data.toList.drop i).take (j-i))=X at *
        go_wp2_with fail
        go_region
        all_goals go_wp2_with fail
        all_goals go_roundw
        case rel =>
         refine ⟨j+1,n+1,by omega,by omega,by go_num,?_⟩
         rw [HST.out,show ((10*X+(s[j].toNat-48):Nat):Int)=10*(X:Int)+((s[j].toNat:Int)-48) from by omega]
        case measure=>simp [intOf];omega
       ·obtain rfl:j=k:=by omega
        have hx:=q1i s i j
        go_wp2
        refine bodyPost_ret (v:=.tuple #[.agg #[.int .i64 2,.int .i64 i,.int .i64 (Lx.q2v ((s.data.toList.drop i).take (j-i))),.string (bs ((s.data.toList.drop i).take (j-i)))],.int .i64 0]) ?_ rfl ⟨?_,?_⟩
        ·simp [results,Tryz.results65,go_sem]
        ·rw [H14.out];rfl
        ·exact q13 (q02 (q02 (q03 w) _) _) _
     ·rw [hb] at hwb
      have HB:=Q0 hb;have HWB:=Q0 hwb;clear hb hwb
      go_wp2_with fail
      refine (q2j s[k] _).mono ?_;rintro e w' ⟨rfl,rfl⟩;rw [HWD.out]
      go_wp2_with fail
      refine (qak s[k] _).mono ?_;rintro e w' ⟨rfl,rfl⟩;rw [HWB.out]
      go_wp2_with fail
      refine bodyPost_ret (v:=.tuple #[.agg #[.int .i64 0,.int .i64 0,.int .i64 0,.string { data:=#[] }],.int .i64 4]) (by simp [results,Tryz.results65,go_sem]) rfl ⟨?_,?_⟩
      ·rw [HSC.out,if_pos (by rw [HCL.out,Bool.or_assoc,HB.out];simp)];rfl
      ·exact q02 (q02 (q03 w) _) _
   ·have he:i+1+Lx.span Lx.isDigit (s.data.toList.drop (i+1))=k+1+Lx.span Lx.isDigit (s.data.toList.drop (k+1)):=by rw [HR.out,HDK.out,Lx.q51 hwd];omega
    have HE:=Q0 he;have HWD:=Q0 hwd;clear hwd HR he
    go_wp2_with fail
    refine (q2j s[k] _).mono ?_;rintro e w' ⟨rfl,rfl⟩;rw [HWD.out]
    go_wp2
    go_round
    case rel=>exact ⟨k+1,by omega,by omega,by go_num,HE.out⟩
    case measure=>simp [intOf];omega
  ·have hdk:s.data.toList.drop k=[]:=Q8 (by rw [← q0c];omega)
   have he:i+1+Lx.span Lx.isDigit (s.data.toList.drop (i+1))=k:=by rw [HR.out,hdk];rfl
   have HE:=Q0 he;have HDK:=Q0 hdk;clear hdk HR;have hm:Lx.span Lx.isDigit (s.data.toList.drop i)=k-i:=by rw [HSP.out];omega
   have hk0:i+(k-i)=k:=by omega
   have hsc2:=HSC.out;rw [hm,hk0] at hsc2;have hdg:∀ j,i≤j→j<k→∀ h:j<s.size,48≤s[j].toNat∧s[j].toNat≤57:=qhu s i k hm;have hstep:∀ j,i≤j→j<k→∀ h:j<s.size,Lx.q2v ((s.data.toList.drop i).take (j+1-i))=10*Lx.q2v ((s.data.toList.drop i).take (j-i))+(s[j].toNat-48):=λj h1 h2 h3=>dec_step s i j h1 h3
   have hlt:k-i≤13→∀ j,i≤j→j≤k→Lx.q2v ((s.data.toList.drop i).take (j-i))<10000000000000:=λh13 j h1 h2=>dec_bound s i k j hm h13 h1 h2
   have HDIG:=Q0 hdg;have HSTEP:=Q0 hstep;have HLT0:=Q0 hlt;clear HSC hm hk0 hdg hstep hlt HSP;have HSC:=Q0 hsc2;clear hsc2;clear he;by_cases h13:13<k-i
   ·have h13':13<(k:Int)-(i:Int):=by omega
    go_wp2_with fail
    refine bodyPost_ret (v:=.tuple #[.agg #[.int .i64 0,.int .i64 0,.int .i64 0,.string { data:=#[] }],.int .i64 4]) (by simp [results,Tryz.results65,go_sem]) rfl ⟨?_,?_⟩
    ·rw [HSC.out,if_pos (by simp [h13])];rfl
    ·exact q02 (q02 (q03 w) _) _
   ·have h13':¬ (13<(k:Int)-(i:Int)):=by omega
    have HLT:=Q0 (HLT0.out (by omega))
    go_wp2_with fail
    have H14:Qn (Lx.scan (s.data.toList.drop i)=⟨0,2,Lx.q2v ((s.data.toList.drop i).take (k-i)),(s.data.toList.drop i).take (k-i),k-i⟩):=Q0 (by rw [HSC.out,HDK.out,if_neg (by simp [Lx.q1w];omega)])
    clear HSC HE
    go_loopw [9] (λv wr=>∃ j n:Nat,i≤j∧j≤k∧v=.int .i64 j∧wr=((w.alloc (.cells #[.int .i64 0,.int .i64 0,.int .i64 0,.string { data:=#[] }] 89)).alloc (.cells #[.int .i64 2,.int .i64 i,.int .i64 (Lx.q2v ((s.data.toList.drop i).take (j-i))),.string { data:=#[] }] 89)).drewN n) (λv _=>k-(intOf v).toNat)
    case atStart=>exact ⟨i,0,by omega,by omega,rfl,by rw [Nat.sub_self];rfl⟩
    case round =>
     obtain ⟨j,n,hj1,hj2,rfl,rfl⟩:=hrel;by_cases hjk:j<k
     ·have hjs:j<s.size:=by omega
      have hbj:s[j].toNat<256:=Q7 s[j];obtain ⟨d1,d2⟩:=HDIG.out j hj1 hjk hjs;have hst:=HSTEP.out j hj1 hjk hjs;have HST:=Q0 hst;have hlt:=HLT.out j hj1 hj2;clear hst;generalize Lx.q2v ((s.data.toList.drop i).take (j-i))=X at *
      go_wp2_with fail
      go_region
      all_goals go_wp2_with fail
      all_goals go_roundw
      case rel =>
       refine ⟨j+1,n+1,by omega,by omega,by go_num,?_⟩
       rw [HST.out,show ((10*X+(s[j].toNat-48):Nat):Int)=10*(X:Int)+((s[j].toNat:Int)-48) from by omega]
      case measure=>simp [intOf];omega
     ·obtain rfl:j=k:=by omega
      have hx:=q1i s i j
      go_wp2
      refine bodyPost_ret (v:=.tuple #[.agg #[.int .i64 2,.int .i64 i,.int .i64 (Lx.q2v ((s.data.toList.drop i).take (j-i))),.string (bs ((s.data.toList.drop i).take (j-i)))],.int .i64 0]) ?_ rfl ⟨?_,?_⟩
      ·simp [results,Tryz.results65,go_sem]
      ·rw [H14.out];rfl
      ·exact q13 (q02 (q02 (q03 w) _) _) _
end Go.Proofs.YtlmbfijhkcmncaaGreatDoor
namespace Go.Proofs.YtlmbfijhkcmncaaGreatDoor
open Go.RowKit
attribute [local go_sem] q12 q0q q0s
theorem qgu {a b:Nat} (h:a≠b):((a:Int)==(b:Int))=false:=by rw [beq_eq_false_iff_ne];omega
set_option maxRecDepth 100000 in
set_option maxHeartbeats 4000000 in
theorem rnext_quote (s:ByteArray) (i:Nat) (w:World) (hs:s.size≤4611686018427387904) (hi:i<s.size) (hl:Lx.cls s[i]=6) :
  Calls Tryz.prog 65 #[.string s,.int .i64 i] w λe w' =>
   e=.returned (.tuple #[(Lx.scan (s.data.toList.drop i)).out i,.int .i64 (Lx.scan (s.data.toList.drop i)).err])∧Below w.heap.size w w':=by
 have hd:=q10 s i hi;have hl1:Lx.q17 s[i]=false:=by rw [Lx.q3s,hl];rfl
 have hl2:Lx.isDigit s[i]=false:=by rw [Lx.q3x,hl];rfl
 have hl3:(s[i]==34)=true:=by rw [Lx.q74,hl];rfl
 have hc34:((s[i].toNat:Int)==34)=true:=by rw [beq_iff_eq] at hl3 ⊢;rw [hl3];rfl
 have hsc:=Lx.qku s[i] (s.data.toList.drop (i+1)) hl;rw [← hd,Qg] at hsc;have HSC:=Q0 hsc;have HL1:=Q0 hl1;have HL2:=Q0 hl2;clear hsc hd hl1 hl2 hl hl3;have hb0:s[i].toNat<256:=Q7 s[i]
 go_enter Tryz.func65,Tryz.ntmps65
 go_wp2_with fail
 refine (q2d s[i] _).mono ?_;rintro e w' ⟨rfl,rfl⟩;rw [HL1.out]
 go_wp2_with fail
 refine (q2j s[i] _).mono ?_;rintro e w' ⟨rfl,rfl⟩;rw [HL2.out]
 go_wp2_with fail
 go_loop [6] (λv=>∃ k:Nat,i+1≤k∧k≤s.size∧v=.int .i64 k∧i+1+Lx.span Lx.q0p (s.data.toList.drop (i+1))=k+Lx.span Lx.q0p (s.data.toList.drop k)) (λv=>s.size-(intOf v).toNat)
 case atStart=>exact ⟨i+1,by omega,by omega,by go_num,rfl⟩
 case round =>
  obtain ⟨k,hk1,hk2,rfl,hr⟩:=hrel;have HR:=Q0 hr;clear hr;by_cases hlt:k<s.size
  ·have hdk:=q10 s k hlt
   have HDK:=Q0 hdk;clear hdk;have hbk:s[k].toNat<256:=Q7 s[k];by_cases h34:s[k]=34
   ·have hin:Lx.q0p s[k]=false:=by rw [h34];rfl
    have he:i+1+Lx.span Lx.q0p (s.data.toList.drop (i+1))=k:=by rw [HR.out,HDK.out,Lx.q63 hin];rfl
    have hq1:((s[k].toNat:Int) != 34)=false:=by rw [h34];rfl
    have hq2:((s[k].toNat:Int)==10)=false:=by rw [h34];rfl
    have hm:Lx.span Lx.q0p (s.data.toList.drop (i+1))=k-(i+1):=by omega
    have hsc2:=HSC.out;rw [hm,show i+1+(k-(i+1))=k from by omega,HDK.out,Qf,h34,if_pos (by decide)] at hsc2
    have HSC2:=Q0 hsc2;clear hin he hm hsc2 HSC HR h34 HDK;have hne:((k:Int)==(s.size:Int))=false:=qgu (by omega)
    by_cases h4:400<k-(i+1)
    ·have h4':400<(k:Int)-(i:Int)-1:=by omega
     go_wp2
     refine bodyPost_ret (v:=.tuple #[.agg #[.int .i64 0,.int .i64 0,.int .i64 0,.string { data:=#[] }],.int .i64 2]) (by simp [results,Tryz.results65,go_sem]) rfl ⟨?_,?_⟩
     ·rw [HSC2.out,if_pos h4];rfl
     ·exact q02 (q02 (q03 w) _) _
    ·have h4':¬ (400<(k:Int)-(i:Int)-1):=by omega
     have hx:=q1i s (i+1) k
     go_wp2
     refine bodyPost_ret (v:=.tuple #[.agg #[.int .i64 3,.int .i64 i,.int .i64 0,.string (bs ((s.data.toList.drop (i+1)).take (k-(i+1))))],.int .i64 0]) ?_ rfl ⟨?_,?_⟩
     ·simp [results,Tryz.results65,go_sem]
     ·rw [HSC2.out,if_neg h4];rfl
     ·exact q02 (q02 (q03 w) _) _
   ·have hq1:((s[k].toNat:Int) != 34)=true:=by
     rw [bne_iff_ne];intro h;exact h34 (Qa.1 (by show _=34;omega))
    by_cases h10:s[k]=10
    ·have hin:Lx.q0p s[k]=false:=by rw [h10];rfl
     have he:i+1+Lx.span Lx.q0p (s.data.toList.drop (i+1))=k:=by rw [HR.out,HDK.out,Lx.q63 hin];rfl
     have hq2:((s[k].toNat:Int) != 10)=false:=by rw [h10];rfl
     have hq3:((s[k].toNat:Int)==10)=true:=by rw [h10];rfl
     have hm:Lx.span Lx.q0p (s.data.toList.drop (i+1))=k-(i+1):=by omega
     have hsc2:=HSC.out;rw [hm,show i+1+(k-(i+1))=k from by omega,HDK.out,Qf,h10,if_neg (by decide)] at hsc2
     have HSC2:=Q0 hsc2;clear hin he hm hsc2 HSC HR h34 h10 HDK;have hne:((k:Int)==(s.size:Int))=false:=qgu (by omega)
     go_wp2
     refine bodyPost_ret (v:=.tuple #[.agg #[.int .i64 0,.int .i64 0,.int .i64 0,.string { data:=#[] }],.int .i64 6]) (by simp [results,Tryz.results65,go_sem]) rfl ⟨?_,?_⟩
     ·rw [HSC2.out];rfl
     ·exact q02 (q02 (q03 w) _) _
    ·have hq2:((s[k].toNat:Int) != 10)=true:=by
      rw [bne_iff_ne];intro h;exact h10 (Qa.1 (by show _=10;omega))
     have hin:Lx.q0p s[k]=true:=by
      have n1:(s[k]==34)=false:=by rw [beq_eq_false_iff_ne];exact h34
      have n2:(s[k]==10)=false:=by rw [beq_eq_false_iff_ne];exact h10
      simp [Lx.q0p,n1,n2]
     have he:i+1+Lx.span Lx.q0p (s.data.toList.drop (i+1))=k+1+Lx.span Lx.q0p (s.data.toList.drop (k+1)):=by rw [HR.out,HDK.out,Lx.q51 hin];omega
     have HE:=Q0 he;clear he hin h10 h34 HR HDK
     go_wp2
     go_round
     case rel=>exact ⟨k+1,by omega,by omega,by go_num,HE.out⟩
     case measure=>simp [intOf];omega
  ·have hdk:s.data.toList.drop k=[]:=Q8 (by rw [← q0c];omega)
   have he:i+1+Lx.span Lx.q0p (s.data.toList.drop (i+1))=k:=by rw [HR.out,hdk];rfl
   have hm:Lx.span Lx.q0p (s.data.toList.drop (i+1))=k-(i+1):=by omega
   have hsc2:=HSC.out;rw [hm,show i+1+(k-(i+1))=k from by omega,hdk,if_neg (by decide)] at hsc2
   have HSC2:=Q0 hsc2;clear he hm hsc2 HSC HR hdk;have hne:((k:Int)==(s.size:Int))=true:=by rw [beq_iff_eq];omega
   go_wp2
   refine bodyPost_ret (v:=.tuple #[.agg #[.int .i64 0,.int .i64 0,.int .i64 0,.string { data:=#[] }],.int .i64 6]) (by simp [results,Tryz.results65,go_sem]) rfl ⟨?_,?_⟩
   ·rw [HSC2.out];rfl
   ·exact q02 (q02 (q03 w) _) _
theorem sym_one (c:UInt8):hasB [33,60,62] c=(c==33||c==60||c==62):=by
 have h:=Lx.q3u (λc=>hasB [33,60,62] c==(c==33||c==60||c==62)) (by decide +kernel) c
 rwa [beq_iff_eq] at h
theorem qbe (c:UInt8):hasB [59,44,46,58,40,41,91,93,123,125,61,60,62,43,45] c=(c==60||c==62||Lx.q93 c):=by
 have h:=Lx.q3u (λc=>hasB [59,44,46,58,40,41,91,93,123,125,61,60,62,43,45] c==(c==60||c==62||Lx.q93 c)) (by decide +kernel) c
 rwa [beq_iff_eq] at h
set_option maxRecDepth 100000 in
set_option maxHeartbeats 4000000 in
theorem rnext_sym (s:ByteArray) (i:Nat) (w:World) (hs:s.size≤4611686018427387904) (hi:i<s.size) (hl3:Lx.cls s[i]≠3) (hl4:Lx.cls s[i]≠4) (hl6:Lx.cls s[i]≠6) :
  Calls Tryz.prog 65 #[.string s,.int .i64 i] w λe w' =>
   e=.returned (.tuple #[(Lx.scan (s.data.toList.drop i)).out i,.int .i64 (Lx.scan (s.data.toList.drop i)).err])∧Below w.heap.size w w':=by
 have hd:=q10 s i hi;have hl1:Lx.q17 s[i]=false:=by rw [Lx.q3s,beq_eq_false_iff_ne];exact hl3
 have hl2:Lx.isDigit s[i]=false:=by rw [Lx.q3x,beq_eq_false_iff_ne];exact hl4
 have hl5:(s[i]==34)=false:=by rw [Lx.q74,beq_eq_false_iff_ne];exact hl6
 have hc34:((s[i].toNat:Int)==34)=false:=by
  rw [beq_eq_false_iff_ne];intro h;rw [beq_eq_false_iff_ne] at hl5;exact hl5 (Qa.1 (by show _=34;omega))
 have hsc:Lx.scan (s.data.toList.drop i)=if (s[i]==33||s[i]==60||s[i]==62)&&(s.data.toList.drop (i+1)).head? == some 61 then ⟨0,4,0,[s[i],61],2⟩ else if s[i]==60||s[i]==62||Lx.q93 s[i] then ⟨0,4,0,[s[i]],1⟩ else Lx.bad 3:=by
  rw [hd,Lx.scan,if_neg (by rw [hl1];decide),if_neg (by rw [hl2];decide),if_neg (by rw [hl5];decide)]
 have HSC0:=Q0 hsc;have HL1:=Q0 hl1;have HL2:=Q0 hl2;clear hsc hd hl1 hl2 hl3 hl4 hl5 hl6;have hb0:s[i].toNat<256:=Q7 s[i];cases hb1:hasB [33,60,62] s[i]
 ·have hsc1:=HSC0.out
  rw [← sym_one,hb1,Bool.false_and,if_neg (by decide)] at hsc1
  have HSC1:=Q0 hsc1;have HB1:=Q0 hb1;clear hsc1 hb1 HSC0;cases hb2:hasB [59,44,46,58,40,41,91,93,123,125,61,60,62,43,45] s[i]
  ·have hsc:=HSC1.out
   rw [← qbe,hb2,if_neg (by decide)] at hsc
   have HSC:=Q0 hsc;have HB2:=Q0 hb2;clear hsc hb2 HSC1
   go_enter Tryz.func65,Tryz.ntmps65
   go_wp2_with fail
   refine (q2d s[i] _).mono ?_;rintro e w' ⟨rfl,rfl⟩;rw [HL1.out]
   go_wp2_with fail
   refine (q2j s[i] _).mono ?_;rintro e w' ⟨rfl,rfl⟩;rw [HL2.out]
   go_wp2_with fail
   refine (q36 _ s[i] _ (by show 3≤_;omega)).mono ?_
   rintro e w' ⟨rfl,rfl⟩;rw [show (({ data:=#[33,60,62] }:ByteArray).data.toList)=[33,60,62] from rfl,HB1.out]
   go_wp2_with fail
   refine (q36 _ s[i] _ (by show 15≤_;omega)).mono ?_
   rintro e w' ⟨rfl,rfl⟩;rw [show (({ data:=#[59,44,46,58,40,41,91,93,123,125,61,60,62,43,45] }:ByteArray).data.toList)=[59,44,46,58,40,41,91,93,123,125,61,60,62,43,45] from rfl,HB2.out]
   go_wp2
   refine bodyPost_ret (v:=.tuple #[.agg #[.int .i64 0,.int .i64 0,.int .i64 0,.string { data:=#[] }],.int .i64 3]) (by simp [results,Tryz.results65,go_sem]) rfl ⟨?_,?_⟩
   ·rw [HSC.out];rfl
   ·exact q02 (q02 (q03 w) _) _
  ·have hsc:=HSC1.out
   rw [← qbe,hb2,if_pos rfl] at hsc;have HSC:=Q0 hsc;have HB2:=Q0 hb2;clear hsc hb2 HSC1;have hx:s.extract i (i+1)=bs [s[i]]:=by
    rw [q1i,q10 s i hi,Qc];rfl
   go_enter Tryz.func65,Tryz.ntmps65
   go_wp2_with fail
   refine (q2d s[i] _).mono ?_;rintro e w' ⟨rfl,rfl⟩;rw [HL1.out]
   go_wp2_with fail
   refine (q2j s[i] _).mono ?_;rintro e w' ⟨rfl,rfl⟩;rw [HL2.out]
   go_wp2_with fail
   refine (q36 _ s[i] _ (by show 3≤_;omega)).mono ?_
   rintro e w' ⟨rfl,rfl⟩;rw [show (({ data:=#[33,60,62] }:ByteArray).data.toList)=[33,60,62] from rfl,HB1.out]
   go_wp2_with fail
   refine (q36 _ s[i] _ (by show 15≤_;omega)).mono ?_
   rintro e w' ⟨rfl,rfl⟩;rw [show (({ data:=#[59,44,46,58,40,41,91,93,123,125,61,60,62,43,45] }:ByteArray).data.toList)=[59,44,46,58,40,41,91,93,123,125,61,60,62,43,45] from rfl,HB2.out]
   go_wp2
   refine bodyPost_ret (v:=.tuple #[.agg #[.int .i64 4,.int .i64 i,.int .i64 0,.string (bs [s[i]])],.int .i64 0]) ?_ rfl ⟨?_,?_⟩
   ·simp [results,Tryz.results65,go_sem]
   ·rw [HSC.out];rfl
   ·exact q02 (q02 (q03 w) _) _
 ·by_cases hlt:i+1<s.size
  ·have hdk:=q10 s (i+1) hlt
   have hbk:s[i+1].toNat<256:=Q7 s[i+1];by_cases h61:s[i+1]=61
   ·have hsc1:=HSC0.out
    rw [← sym_one,hb1,hdk,Qf,h61,if_pos (by decide)] at hsc1
    have HSC1:=Q0 hsc1;have hx:s.extract i (i+2)=bs [s[i],61]:=by
     rw [q1i,q10 s i hi,hdk,h61,Qc];rfl
    have h61':((s[i+1].toNat:Int)==61)=true:=by rw [h61];rfl
    have HB1:=Q0 hb1;clear hsc1 hb1 HSC0 hdk h61
    go_enter Tryz.func65,Tryz.ntmps65
    go_wp2_with fail
    refine (q2d s[i] _).mono ?_;rintro e w' ⟨rfl,rfl⟩;rw [HL1.out]
    go_wp2_with fail
    refine (q2j s[i] _).mono ?_;rintro e w' ⟨rfl,rfl⟩;rw [HL2.out]
    go_wp2_with fail
    refine (q36 _ s[i] _ (by show 3≤_;omega)).mono ?_
    rintro e w' ⟨rfl,rfl⟩;rw [show (({ data:=#[33,60,62] }:ByteArray).data.toList)=[33,60,62] from rfl,HB1.out]
    go_wp2
    refine bodyPost_ret (v:=.tuple #[.agg #[.int .i64 4,.int .i64 i,.int .i64 0,.string (bs [s[i],61])],.int .i64 0]) ?_ rfl ⟨?_,?_⟩
    ·simp [results,Tryz.results65,go_sem]
    ·rw [HSC1.out];rfl
    ·exact q02 (q02 (q03 w) _) _
   ·have hsc1:=HSC0.out
    rw [hdk,Qf,if_neg] at hsc1
    ·have HSC1:=Q0 hsc1
     have h61':((s[i+1].toNat:Int)==61)=false:=by
      rw [beq_eq_false_iff_ne];intro h;exact h61 (Qa.1 (by show _=61;omega))
     have HB1:=Q0 hb1;clear hsc1 hb1 HSC0 hdk h61;cases hb2:hasB [59,44,46,58,40,41,91,93,123,125,61,60,62,43,45] s[i]
     ·have hsc:=HSC1.out
      rw [← qbe,hb2,if_neg (by decide)] at hsc
      have HSC:=Q0 hsc;have HB2:=Q0 hb2;clear hsc hb2 HSC1
      go_enter Tryz.func65,Tryz.ntmps65
      go_wp2_with fail
      refine (q2d s[i] _).mono ?_;rintro e w' ⟨rfl,rfl⟩;rw [HL1.out]
      go_wp2_with fail
      refine (q2j s[i] _).mono ?_;rintro e w' ⟨rfl,rfl⟩;rw [HL2.out]
      go_wp2_with fail
      refine (q36 _ s[i] _ (by show 3≤_;omega)).mono ?_
      rintro e w' ⟨rfl,rfl⟩;rw [show (({ data:=#[33,60,62] }:ByteArray).data.toList)=[33,60,62] from rfl,HB1.out]
      go_wp2_with fail
      refine (q36 _ s[i] _ (by show 15≤_;omega)).mono ?_
      rintro e w' ⟨rfl,rfl⟩;rw [show (({ data:=#[59,44,46,58,40,41,91,93,123,125,61,60,62,43,45] }:ByteArray).data.toList)=[59,44,46,58,40,41,91,93,123,125,61,60,62,43,45] from rfl,HB2.out]
      go_wp2
      refine bodyPost_ret (v:=.tuple #[.agg #[.int .i64 0,.int .i64 0,.int .i64 0,.string { data:=#[] }],.int .i64 3]) (by simp [results,Tryz.results65,go_sem]) rfl ⟨?_,?_⟩
      ·rw [HSC.out];rfl
      ·exact q02 (q02 (q03 w) _) _
     ·have hsc:=HSC1.out
      rw [← qbe,hb2,if_pos rfl] at hsc;have HSC:=Q0 hsc;have HB2:=Q0 hb2;clear hsc hb2 HSC1;have hx:s.extract i (i+1)=bs [s[i]]:=by
       rw [q1i,q10 s i hi,Qc];rfl
      go_enter Tryz.func65,Tryz.ntmps65
      go_wp2_with fail
      refine (q2d s[i] _).mono ?_;rintro e w' ⟨rfl,rfl⟩;rw [HL1.out]
      go_wp2_with fail
      refine (q2j s[i] _).mono ?_;rintro e w' ⟨rfl,rfl⟩;rw [HL2.out]
      go_wp2_with fail
      refine (q36 _ s[i] _ (by show 3≤_;omega)).mono ?_
      rintro e w' ⟨rfl,rfl⟩;rw [show (({ data:=#[33,60,62] }:ByteArray).data.toList)=[33,60,62] from rfl,HB1.out]
      go_wp2_with fail
      refine (q36 _ s[i] _ (by show 15≤_;omega)).mono ?_
      rintro e w' ⟨rfl,rfl⟩;rw [show (({ data:=#[59,44,46,58,40,41,91,93,123,125,61,60,62,43,45] }:ByteArray).data.toList)=[59,44,46,58,40,41,91,93,123,125,61,60,62,43,45] from rfl,HB2.out]
      go_wp2
      refine bodyPost_ret (v:=.tuple #[.agg #[.int .i64 4,.int .i64 i,.int .i64 0,.string (bs [s[i]])],.int .i64 0]) ?_ rfl ⟨?_,?_⟩
      ·simp [results,Tryz.results65,go_sem]
      ·rw [HSC.out];rfl
      ·exact q02 (q02 (q03 w) _) _
    ·rw [Qd,beq_iff_eq]
     rintro ⟨_,h⟩;exact h61 (Option.some.inj h)
  ·have hdk:s.data.toList.drop (i+1)=[]:=Q8 (by rw [← q0c];omega)
   have hsc1:=HSC0.out;rw [hdk,if_neg (by simp)] at hsc1
   have HSC1:=Q0 hsc1;have HB1:=Q0 hb1;clear hsc1 hb1 HSC0 hdk;cases hb2:hasB [59,44,46,58,40,41,91,93,123,125,61,60,62,43,45] s[i]
   ·have hsc:=HSC1.out
    rw [← qbe,hb2,if_neg (by decide)] at hsc
    have HSC:=Q0 hsc;have HB2:=Q0 hb2;clear hsc hb2 HSC1
    go_enter Tryz.func65,Tryz.ntmps65
    go_wp2_with fail
    refine (q2d s[i] _).mono ?_;rintro e w' ⟨rfl,rfl⟩;rw [HL1.out]
    go_wp2_with fail
    refine (q2j s[i] _).mono ?_;rintro e w' ⟨rfl,rfl⟩;rw [HL2.out]
    go_wp2_with fail
    refine (q36 _ s[i] _ (by show 3≤_;omega)).mono ?_
    rintro e w' ⟨rfl,rfl⟩;rw [show (({ data:=#[33,60,62] }:ByteArray).data.toList)=[33,60,62] from rfl,HB1.out]
    go_wp2_with fail
    refine (q36 _ s[i] _ (by show 15≤_;omega)).mono ?_
    rintro e w' ⟨rfl,rfl⟩;rw [show (({ data:=#[59,44,46,58,40,41,91,93,123,125,61,60,62,43,45] }:ByteArray).data.toList)=[59,44,46,58,40,41,91,93,123,125,61,60,62,43,45] from rfl,HB2.out]
    go_wp2
    refine bodyPost_ret (v:=.tuple #[.agg #[.int .i64 0,.int .i64 0,.int .i64 0,.string { data:=#[] }],.int .i64 3]) (by simp [results,Tryz.results65,go_sem]) rfl ⟨?_,?_⟩
    ·rw [HSC.out];rfl
    ·exact q02 (q02 (q03 w) _) _
   ·have hsc:=HSC1.out
    rw [← qbe,hb2,if_pos rfl] at hsc;have HSC:=Q0 hsc;have HB2:=Q0 hb2;clear hsc hb2 HSC1;have hx:s.extract i (i+1)=bs [s[i]]:=by
     rw [q1i,q10 s i hi,Qc];rfl
    go_enter Tryz.func65,Tryz.ntmps65
    go_wp2_with fail
    refine (q2d s[i] _).mono ?_;rintro e w' ⟨rfl,rfl⟩;rw [HL1.out]
    go_wp2_with fail
    refine (q2j s[i] _).mono ?_;rintro e w' ⟨rfl,rfl⟩;rw [HL2.out]
    go_wp2_with fail
    refine (q36 _ s[i] _ (by show 3≤_;omega)).mono ?_
    rintro e w' ⟨rfl,rfl⟩;rw [show (({ data:=#[33,60,62] }:ByteArray).data.toList)=[33,60,62] from rfl,HB1.out]
    go_wp2_with fail
    refine (q36 _ s[i] _ (by show 15≤_;omega)).mono ?_
    rintro e w' ⟨rfl,rfl⟩;rw [show (({ data:=#[59,44,46,58,40,41,91,93,123,125,61,60,62,43,45] }:ByteArray).data.toList)=[59,44,46,58,40,41,91,93,123,125,61,60,62,43,45] from rfl,HB2.out]
    go_wp2
    refine bodyPost_ret (v:=.tuple #[.agg #[.int .i64 4,.int .i64 i,.int .i64 0,.string (bs [s[i]])],.int .i64 0]) ?_ rfl ⟨?_,?_⟩
    ·simp [results,Tryz.results65,go_sem]
    ·rw [HSC.out];rfl
    ·exact q02 (q02 (q03 w) _) _
theorem rnext_any (s:ByteArray) (i:Nat) (w:World) (hs:s.size≤4611686018427387904) (hi:i<s.size) :
  Calls Tryz.prog 65 #[.string s,.int .i64 i] w λe w' =>
   e=.returned (.tuple #[(Lx.scan (s.data.toList.drop i)).out i,.int .i64 (Lx.scan (s.data.toList.drop i)).err])∧Below w.heap.size w w':=by
 by_cases h3:Lx.cls s[i]=3
 ·exact rnext_letter s i w hs hi (by rw [Lx.q3s,h3];rfl)
 by_cases h4:Lx.cls s[i]=4
 ·exact rnext_digit s i w hs hi h4
 by_cases h6:Lx.cls s[i]=6
 ·exact rnext_quote s i w hs hi h6
 exact rnext_sym s i w hs hi h3 h4 h6
end Go.Proofs.YtlmbfijhkcmncaaGreatDoor
namespace Go.Proofs.YtlmbfijhkcmncaaGreatDoor
open Go.RowKit
attribute [local go_sem] q12 q0q q0s
namespace Lx
end Lx
theorem own_lt {w w3:World} {base:Nat} {e:TypeId} {size n:Nat} {v:Value} {xs:List Value} (h:w.ownsRow base e size v n xs) (hv:v.ownBlock=some w3.heap.size) (hb:Below w.heap.size w w3):False:=by
 have hz:=hb.size;rcases h.2 with ⟨rfl,_⟩ | ⟨g,cap,cur,rfl,h2,h3,_⟩
 ·cases hv
 ·simp [Value.ownBlock] at hv
  have hlt:=(Array.getElem?_eq_some_iff.1 h3).1;omega
structure RLexRel (s:ByteArray) (w0:World) (out i:Value) (wr:World):Prop where
 ex:∃ (A:Option Addr) (c k f:Nat) (l:List Lx.Tok),out=.slice A l.length c∧i=.int .i64 k∧k≤s.size∧l.length≤5000 ∧
  wr.ownsRow w0.heap.size 89 4 out l.length (q43 l)∧s.size<f+k∧Lx.q4k f l k (s.data.toList.drop k)=Lx.lex s.data.toList
 below:Below w0.heap.size w0 wr
set_option maxRecDepth 100000 in
set_option maxHeartbeats 400000 in
theorem rlex_any (s:ByteArray) (w:World) (hs:s.size≤9223372036854775807) :
  Calls Tryz.prog 36 #[.string s] w λe w'=>∃ v,e=.returned (.tuple #[v,.int .i64 (Lx.lex s.data.toList).2.1,.int .i64 (Lx.lex s.data.toList).2.2]) ∧
   qbs w' w.heap.size v (Lx.lex s.data.toList).1∧Below w.heap.size w w':=by
 by_cases hbig:20000<s.size
 ·have hl:Lx.lex s.data.toList=([],2,-1):=by
   unfold Lx.lex;rw [if_pos (by rw [← q0c];exact hbig)]
  rw [hl];clear hl
  go_enter Tryz.func36,Tryz.ntmps36
  go_wp2
  go_ret3
  exact ⟨_,rfl,⟨rfl,.inl ⟨rfl,rfl⟩⟩,q03 w⟩
 ·go_enter Tryz.func36,Tryz.ntmps36
  go_wp2_with fail
  refine (rgap_any s 0 _ (by omega) (by omega) (by omega)).mono ?_
  rintro e w2 ⟨rfl,n0,rfl⟩;rw [show (0:Int).toNat=0 from rfl,List.drop_zero,Nat.zero_add];have hg0:=Lx.q7j s.data.toList;rw [← q0c] at hg0;have hl:Lx.q4k (s.data.toList.length+1) [] (Lx.gap s.data.toList) (s.data.toList.drop (Lx.gap s.data.toList))=Lx.lex s.data.toList:=by
   unfold Lx.lex;rw [if_neg (by rw [← q0c];exact hbig)]
  have HL:=Q0 hl;clear hl
  go_wp2
  go_loopw [5,6] (λout i wr=>RLexRel s w out i wr) (λ_ i _=>s.size-(intOf i).toNat)
  case atStart=>exact ⟨⟨none,0,_,_,[],rfl,rfl,hg0,by simp,⟨rfl,.inl ⟨rfl,rfl⟩⟩,by rw [q0c];omega,HL.out⟩,q13 (q03 w) _⟩
  case round =>
   obtain ⟨⟨A,c,k,f,l,rfl,rfl,hk,hl5,hown,hf,hlex⟩,hbr⟩:=hrel;have HOWN:=Q0 hown;have HLEX:=Q0 hlex;clear hown hlex HL;have hszr:=hbr.size;have HBR:=Q0 hbr;clear hbr;by_cases hlt:k<s.size
   ·obtain ⟨f,rfl⟩:∃ f',f=f'+1:=⟨f-1,by omega⟩
    have hd:=q10 s k hlt;have hlex:=HLEX.out;rw [hd] at hlex;have HLX:=Q0 hlex;have HD:=Q0 hd;clear hlex hd HLEX
    go_wp2_with fail
    refine (rnext_any s k _ (by omega) hlt).mono ?_
    rintro e w3 ⟨rfl,hb3⟩;have hwr:=Lx.q98 (s.data.toList.drop k) k;have htl:=Lx.text_le ((Lx.scan (s.data.toList.drop k)).tok k);have hw:=Lx.qb4 (s.data.toList.drop k);unfold Lx.Fits at hw;rw [Qu,← q0c] at hw;have h1:=Lx.qay f l k s[k] (s.data.toList.drop (k+1));have h2:=Lx.qaa f l k s[k] (s.data.toList.drop (k+1));have h3:=Lx.qaj f l k s[k] (s.data.toList.drop (k+1));have hlx:=HLX.out;rw [← HD.out] at h1 h2 h3 hlx;obtain ⟨q,hq,hq2⟩:∃ q:Int,(Lx.scan (s.data.toList.drop k)).out k=.agg #[.int .i64 (Lx.scan (s.data.toList.drop k)).kind,.int .i64 q,.int .i64 (Lx.scan (s.data.toList.drop k)).n,.string (bs (Lx.scan (s.data.toList.drop k)).text)] ∧
      ((Lx.scan (s.data.toList.drop k)).err=0→q=k):=⟨_,rfl,λh=>by rw [if_pos h]⟩
    rw [hq];clear hq HLX HD;generalize Lx.scan (s.data.toList.drop k)=r at *
    obtain ⟨err,kind,n,text,width⟩:=r;simp only [] at hw h1 h2 h3 hq2 hwr htl;by_cases he:err=0
    ·subst he
     obtain rfl:=hq2 rfl;have HWR:=Q0 (hwr rfl);have htl2:text.length≤width:=by
      have:=htl
      rw [HWR.out] at this;exact this
     clear hwr htl;obtain ⟨hw1,hw2⟩:=hw rfl;by_cases hfull:l.length=5000
     ·have hfin:=h1 rfl hfull
      rw [hlx] at hfin;have HFIN:=Q0 hfin;have hfull':((l.length:Int)==5000)=true:=by rw [beq_iff_eq];omega
      clear hfin hlx h1 h2 h3 hfull;have HB3:=Q0 hb3;clear hb3
      go_wp2
      go_ret3
      refine ⟨.slice none 0 0,?_,?_,?_⟩
      ·rw [HFIN.out];rfl
      ·rw [HFIN.out];exact ⟨rfl,.inl ⟨rfl,rfl⟩⟩
      ·exact HBR.out.trans ((q02 HB3.out _).mono hszr)
     ·have hfin:=h3 rfl hfull
      rw [hlx] at hfin;have HFIN:=Q0 hfin;have hfull':((l.length:Int)==5000)=false:=by rw [beq_eq_false_iff_ne];omega
      have hlenb:l.length+1≤5000:=by omega
      clear hfin hlx h1 h2 h3 hfull;have HB3:=Q0 hb3;clear hb3;obtain ⟨i0,hi0,hz0,hz1,hz2⟩:=info_parts info_tok;have hub:∀ u∈[Value.int .i64 kind,.int .i64 k,.int .i64 n,.string (bs text)],u.oneCell'=true:=by simp [Value.oneCell']
      have HUB:=Q0 hub;clear hub;have hb3z:=HB3.out.size
      go_wp2_with (first | (at_builtin;refine wpList_append_own _ rfl _ _ 76 rfl w.heap.size 89 i0 (.agg #[.int .i64 0,.int .i64 0,.int .i64 0,.string { data:=#[] }]) 4 40 Tryz.underlying76 hi0 hz0 hz1 hz2 rfl (by decide) _ l.length (q43 l) rfl (q31 (q31 (q31 HOWN.out HB3.out) (q02 (q03 w3) _)) (q02 (q03 _) _)) ⟨w3.heap.size+1,0,none⟩ 1 1 [.int .i64 kind,.int .i64 k,.int .i64 n,.string (bs text)] rfl rfl (by exact cells_new _ [.int .i64 kind,.int .i64 k,.int .i64 n,.string (bs text)] _ _ (by simp)) HUB.out (by unfold maxLen;omega) (by omega) (by simp;omega) ?_;intro v' w4 hown4 hg4 _;have hblk:Blk w4 w3.heap.size 89 #[.int .i64 kind,.int .i64 k,.int .i64 n,.string (bs text)]:=((Blk.new w3 _ _).alloc _).grown hg4 (λhh=>own_lt (q31 HOWN.out (q03 _)) hh.symm HB3.out);have c0:w4.cell? ⟨w3.heap.size,0,none⟩=some (.int .i64 kind):=hblk.cell 0;have c1:w4.cell? ⟨w3.heap.size,1,none⟩=some (.int .i64 k):=hblk.cell 1;have c2:w4.cell? ⟨w3.heap.size,2,none⟩=some (.int .i64 n):=hblk.cell 2;have c3:w4.cell? ⟨w3.heap.size,3,none⟩=some (.string (bs text)):=hblk.cell 3))
      obtain ⟨A',c',rfl⟩:=q4a hown4;have hbel4:Below w.heap.size w w4:=(HBR.out.trans (HB3.out.mono hszr)).trans ((((q03 w3).alloc (Qs _) _).alloc (by simp) _).mono (by omega)) |>.grown hg4 (by simp;omega) (q2r HOWN.out)
      have hz4:=hbel4.size;have HBEL4:=Q0 hbel4;have HOWN4:=Q0 hown4;clear hbel4 hown4 hg4 hblk c0 c1 c2 c3;refine (width_w kind k n text _ rfl _ (by omega)).mono ?_
      rintro e w6 ⟨rfl,hb6⟩;rw [show (Lx.Tok.written ⟨kind,k,n,text⟩).length=width from HWR.out];have HB6:=Q0 hb6;clear hb6
      go_wp2_with fail
      refine (rgap_any s _ _ (by omega) (by omega) (by omega)).mono ?_
      rintro e w5 ⟨rfl,n5,rfl⟩;rw [show ((k:Int)+(width:Int)).toNat=k+width from by omega]
      have hgl:=Lx.q7j (s.data.toList.drop (k+width));rw [Qu,← q0c] at hgl;have hfin:=HFIN.out;rw [Qg,Qg] at hfin;have HFIN2:=Q0 hfin;clear hfin HFIN;generalize Lx.gap (s.data.toList.drop (k+width))=gg at *
      go_wp2
      go_roundw
      case rel =>
       refine ⟨⟨A',c',k+width+gg,f,l++[Lx.Sc.tok ⟨0,kind,n,text,width⟩ k],?_,by go_num,by omega,?_,?_,by omega,?_⟩,HBEL4.out.trans ((q13 HB6.out n5).mono hz4)⟩
       ·rw [Qe];rfl
       ·rw [Qe];exact hlenb
       ·have h5:=q31 HOWN4.out (q13 HB6.out n5)
        rw [qcs,Qe];exact h5
       ·rw [← HFIN2.out]
      case measure=>simp [intOf];omega
    ·have hfin:=h2 he
     rw [hlx] at hfin;have HFIN:=Q0 hfin;have he':(err==0)=false:=by rw [beq_eq_false_iff_ne];exact he
     have he'':(err != 0)=true:=by rw [bne_iff_ne];exact he
     clear hfin hlx h1 h2 h3 he hw hq2 hwr htl;have HB3:=Q0 hb3;clear hb3
     go_wp2
     go_ret3
     refine ⟨.slice none 0 0,?_,?_,?_⟩
     ·rw [HFIN.out];rfl
     ·rw [HFIN.out];exact ⟨rfl,.inl ⟨rfl,rfl⟩⟩
     ·exact HBR.out.trans ((q02 HB3.out _).mono hszr)
   ·have hk2:k=s.size:=by omega
    have hd:s.data.toList.drop k=[]:=Q8 (by rw [← q0c];omega)
    have hfin:=HLEX.out;rw [hd,Lx.qgd] at hfin;have HFIN:=Q0 hfin;clear hfin hd HLEX;have HK2:=Q0 hk2;clear hk2
    go_wp2
    go_ret3
    refine ⟨.slice A l.length c,?_,?_,HBR.out⟩
    ·rw [← HFIN.out];rfl
    ·rw [← HFIN.out]
     exact HOWN.out
end Go.Proofs.YtlmbfijhkcmncaaGreatDoor
namespace Go.Proofs.YtlmbfijhkcmncaaGreatDoor
open Go.RowKit R
set_option maxRecDepth 100000 in
theorem qbp:gFault.Holds Tryz.prog:=by
 refine q64 (cons:=[]) (rcs:=[]) (inls:=[]) (annsI:=λ_=>[]) gFault Tryz.func38 (by kernel_rfl) (by kernel_rfl) mixed (by kernel_rfl) all_nil (λc h=>by cases h) q2b.nil (λ_ _=>[]) λb p hp=>?_
 obtain ⟨l,i,n,e,a⟩:=b;obtain ⟨k,m⟩:=p;refine cast ?_ (gFault_vc l i n e a k m)
 kernel_rfl
set_option maxRecDepth 100000 in
theorem gSees_holds:gSees.Holds Tryz.prog:=by
 refine q64 (cons:=[]) (rcs:=[]) (inls:=[]) (annsI:=λ_=>[]) gSees Tryz.func40 (by kernel_rfl) (by kernel_rfl) mixed (by kernel_rfl) all_nil (λc h=>by cases h) q2b.nil (λ_ _=>[]) λb p hp=>?_
 obtain ⟨l,i,n,e,a⟩:=b;refine cast ?_ (gSees_vc l i n e a p hp)
 kernel_rfl
set_option maxRecDepth 100000 in
theorem qil:gTake.Holds Tryz.prog:=by
 refine q64 (cons:=[]) (rcs:=[gFault]) (inls:=[]) (annsI:=λ_=>[]) gTake Tryz.func37 (by kernel_rfl) (by kernel_rfl) mixed (by kernel_rfl) all_nil (λc h=>by obtain rfl:=Qh.1 h;exact qbp) q2b.nil (λ_ _=>[]) λb p hp=>?_
 obtain ⟨l,i,n,e,a⟩:=b;obtain ⟨k,s⟩:=p;refine cast ?_ (gTake_vc l i n e a k s hp)
 kernel_rfl
set_option maxRecDepth 100000 in
theorem gRText_holds:gRText.Holds Tryz.prog:=by
 refine q64 (cons:=[gPlain]) (rcs:=[gFault,gTake]) (inls:=[]) (annsI:=λ_=>[]) gRText Tryz.func39 (by kernel_rfl) (by kernel_rfl) mixed (by kernel_rfl) (all_cons qgp all_nil) (λc h=>by
  rcases Qi.1 h with rfl | h
  ·exact qbp
  obtain rfl:=Qh.1 h;exact qil) q2b.nil (λ_ _=>[]) λb p hp=>?_
 obtain ⟨l,i,n,e,a⟩:=b;obtain ⟨lo,hi⟩:=p;refine cast ?_ (gRText_vc l i n e a lo hi hp)
 kernel_rfl
theorem gLex_holds:gLex.Holds Tryz.prog:=by
 refine ⟨⟨⟨_,Tryz.func36,by kernel_rfl,by kernel_rfl⟩,λF' hF p r hr=>by injection hF with hF;subst hF;exact hr⟩,λs0 vs w S hS hp hvs=>?_⟩
 obtain ⟨v,rfl,hv⟩:=qdb hvs;obtain ⟨s,rfl⟩:∃ s:List UInt8,s=s0:=⟨s0,rfl⟩;obtain rfl:v=.string (bs s):=hv;have hp:s.length≤1000000:=hp;have hsz:(bs s).size≤9223372036854775807:=by rw [q3j];omega
 refine (rlex_any (bs s) w hsz).mono ?_;rintro e w' ⟨v,rfl,hrow,hbl⟩;have hrow:qbs w' w.heap.size v (Lx.lex s).1:=hrow;refine ⟨lexP s,_,rfl,rfl,⟨_,rfl,rfl,?_⟩,hbl⟩;have hr:=tok_row (S:=λg=>S g∨(w.heap.size≤g∧g<w'.heap.size)) hrow (λg h1 h2=>.inr ⟨h1,h2⟩)
 intro i x hx
 match i,hx with
 | 0,hx=>injection hx with hx;subst hx;exact ⟨_,rfl,hr⟩
 | 1,hx=>injection hx with hx;subst hx;exact ⟨_,rfl,rfl⟩
 | 2,hx=>injection hx with hx;subst hx;exact ⟨_,rfl,rfl⟩
theorem q60 {α β:Type} {p:α×β} {r:α} {y:β} (h:p=(r,y)):p.1=r∧p.2=y:=by rw [h];exact ⟨rfl,rfl⟩
structure Ahead (x y:RdP):Prop where
 lst:y.1=x.1
 le:x.2.1≤y.2.1
 fin:y.2.1≤x.1.length
 err:x.2.2.2.1≠0→y.2.2.2=x.2.2.2
theorem Ahead.ok {x y:RdP} (h:Ahead x y) (hx:okRd x):okRd y:=by
 obtain ⟨h1,h2,h3,h4⟩:=hx;have:=h.le;have:=h.fin;unfold okRd;rw [h.lst];exact ⟨h1,h2,by omega,h.fin⟩
theorem Ahead.refl {x:RdP} (hx:okRd x):Ahead x x:=⟨rfl,Int.le_refl _,hx.2.2.2,λ_=>rfl⟩
theorem Ahead.trans {x y z:RdP} (h:Ahead x y) (h':Ahead y z):Ahead x z :=
 ⟨h'.lst.trans h.lst,Int.le_trans h.le h'.le,by have:=h'.fin;rw [h.lst] at this;exact this,λhx=>by
  have e:=h.err hx;rw [h'.err (by rw [e];exact hx),e]⟩
theorem qf9 (x:RdP) (e a:Int):(q0y x e a).1=x.1∧(q0y x e a).2.1=x.2.1∧(q0y x e a).2.2.1=x.2.2.1:=by
 unfold q0y;cases x.2.2.2.1==0 <;> exact ⟨rfl,rfl,rfl⟩
theorem fault_err {x:RdP} (e a:Int) (h:x.2.2.2.1≠0):q0y x e a=x:=by
 unfold q0y;rw [beq_eq_false_iff_ne.2 h];rfl
theorem qfy (x:RdP) {e:Int} (a:Int) (h:e≠0):(q0y x e a).2.2.2.1≠0:=by
 unfold q0y;cases hx:x.2.2.2.1==0
 ·exact beq_eq_false_iff_ne.1 hx
 ·exact h
theorem q6k {x:RdP} (hx:okRd x) (e a:Int):Ahead x (q0y x e a):=by
 obtain ⟨h1,h2,_⟩:=qf9 x e a;exact ⟨h1,by rw [h2];omega,by rw [h2];exact hx.2.2.2,λh=>by rw [fault_err e a h]⟩
theorem q68 {x:RdP} (hx:okRd x) (h:x.2.1<x.1.length):Ahead x (q3y x) :=
 ⟨rfl,by show x.2.1≤x.2.1+1;omega,by show x.2.1+1≤_;omega,λ_=>rfl⟩
theorem q0w {x:RdP} (hx:okRd x) (k:Int) (s:List UInt8):Ahead x (q0d x k s).2:=by
 unfold q0d;cases hc:decide ((x.1.length:Int)≤x.2.1)
 ·have hc:=of_decide_eq_false hc
  show Ahead x (q3y (bif _ then _ else _))
  cases !((x.1.getD x.2.1.toNat tok0).1==k)||(!(s==[])&&!((x.1.getD x.2.1.toNat tok0).2.2.2==s))
  ·exact q68 hx (by omega)
  ·obtain ⟨h1,h2,_⟩:=qf9 x 5 (x.1.getD x.2.1.toNat tok0).2.1
   have hf:=q6k hx 5 (x.1.getD x.2.1.toNat tok0).2.1;exact hf.trans (q68 (hf.ok hx) (by rw [h1,h2];omega))
 ·exact q6k hx 6 _
theorem take_pro {x:RdP} (hx:okRd x) (k:Int) (s:List UInt8):x.2.1<(q0d x k s).2.2.1∨(q0d x k s).2.2.2.2.1≠0:=by
 unfold q0d;cases hc:decide ((x.1.length:Int)≤x.2.1)
 ·left
  show x.2.1<(q3y (bif _ then _ else _)).2.1
  cases !((x.1.getD x.2.1.toNat tok0).1==k)||(!(s==[])&&!((x.1.getD x.2.1.toNat tok0).2.2.2==s))
  ·show x.2.1<x.2.1+1;omega
  ·show x.2.1<(q0y x 5 _).2.1+1
   rw [(qf9 x 5 _).2.1];omega
 ·right
  exact qfy x _ (by decide)
theorem q47 {x:RdP} (hx:okRd x) (lo hi:Int):Ahead x (q0b x lo hi).2:=by
 have h:=q0w hx 3 [];unfold q0b;dsimp only;cases Rul.q0e (q0d x 3 []).1.2.2.2 lo hi
 ·exact h.trans (q6k (h.ok hx) _ _)
 ·exact h
theorem text_pro {x:RdP} (hx:okRd x) (lo hi:Int):x.2.1<(q0b x lo hi).2.2.1∨(q0b x lo hi).2.2.2.2.1≠0:=by
 have h:=take_pro hx 3 [];unfold q0b;dsimp only;cases Rul.q0e (q0d x 3 []).1.2.2.2 lo hi
 ·show x.2.1<(q0y _ _ _).2.1∨(q0y _ _ _).2.2.2.1≠0
  exact .inr (qfy _ _ (by decide))
 ·exact h
theorem qho {x:RdP} {s:List UInt8} (h:q4p x s=true):x.2.1<x.1.length:=by
 unfold q4p at h;simp only [Qd] at h;exact of_decide_eq_true h.2.1
theorem qeo {x:RdP} (hx:okRd x) (f t:List UInt8):Ahead x (q6p f t x).2:=by
 unfold q6p;cases h1:q4p x Rul.q76
 ·cases h2:q4p x Rul.wAt
  ·exact Ahead.refl hx
  ·have h:=q68 hx (qho h2)
   exact h.trans (q0w (h.ok hx) _ _)
 ·have h:=q68 hx (qho h1)
  exact h.trans (q47 (h.ok hx) _ _)
theorem qaw {x:RdP} (hx:okRd x) (acc:List Rul.Rule):Ahead x (q1n acc x):=by
 unfold q1n;cases q5l acc x
 ·exact Ahead.refl hx
 ·exact q6k hx _ _
theorem many_eq (acc:List Rul.Rule) (x:RdP):(q1n acc x).2.1=x.2.1:=by
 unfold q1n;cases q5l acc x
 ·rfl
 ·exact (qf9 x _ _).2.1
theorem qd0 {x:RdP} (hx:okRd x) (acc:List Rul.Rule) (r:Rul.Rule) (a:Int):Ahead x (q1c acc r a x):=by
 unfold q1c;cases acc.any λy=>y==r
 ·exact Ahead.refl hx
 ·exact q6k hx _ _
theorem twice_snoc (acc:List Rul.Rule) (y r:Rul.Rule) (a:Int) (x:RdP):q1c (acc++[y]) r a x=bif y==r then q0y (q1c acc r a x) 8 a else q1c acc r a x:=by
 unfold q1c;rw [List.any_append,List.any_cons,List.any_nil,Bool.or_false];cases acc.any λy=>y==r <;> cases y==r
 ·rfl
 ·rfl
 ·rfl
 ·show q0y x 8 a=q0y (q0y x 8 a) 8 a
  rw [fault_err (x:=q0y x 8 a) 8 a (qfy x a (by decide))]
theorem qba {x:RdP} (hx:okRd x):Ahead x (q27 x).2:=by
 unfold q27;have h1:=q47 hx 1 9;have h2:=h1.trans (q0w (h1.ok hx) 1 Rul.wTo);have h3:=h2.trans (q47 (h2.ok hx) 0 9);exact h3.trans (qeo (h3.ok hx) _ _)
theorem rule_pro {x:RdP} (hx:okRd x):x.2.1<(q27 x).2.2.1∨(q27 x).2.2.2.2.1≠0:=by
 have h1:=q47 hx 1 9;have h2:=q0w (h1.ok hx) 1 Rul.wTo;have h3:=q47 ((h1.trans h2).ok hx) 0 9;have h4:=qeo (((h1.trans h2).trans h3).ok hx) (q0b x 1 9).1 (q0b (q0d (q0b x 1 9).2 1 Rul.wTo).2 0 9).1;have h5:=(h2.trans h3).trans h4;have hp:=text_pro hx 1 9;have e:(q27 x).2=(q6p (q0b x 1 9).1 (q0b (q0d (q0b x 1 9).2 1 Rul.wTo).2 0 9).1 (q0b (q0d (q0b x 1 9).2 1 Rul.wTo).2 0 9).2).2:=rfl;rw [e];rcases hp with hp | hp
 ·exact .inl (Qq hp h5.le)
 ·right
  rw [h5.err hp];exact hp
theorem qfc {x:RdP} (hx:okRd x) (acc:List Rul.Rule):Ahead x (q2c acc x).2:=by
 have h1:=qaw hx acc;have h2:=h1.trans (qba (h1.ok hx));have h3:=h2.trans (q0w (h2.ok hx) 4 [59]);exact h3.trans (qd0 (h3.ok hx) _ _ _)
theorem qjo {x:RdP} (hx:okRd x) (acc:List Rul.Rule):x.2.1<(q2c acc x).2.2.1∨(q2c acc x).2.2.2.2.1≠0:=by
 have h1:=qaw hx acc;have h2:=qba (h1.ok hx);have h3:=q0w ((h1.trans h2).ok hx) 4 [59];have h4:=h3.trans (qd0 (((h1.trans h2).trans h3).ok hx) acc (q27 (q1n acc x)).1 (q0d (q27 (q1n acc x)).2 4 [59]).1.2.1);have e:(q2c acc x).2=q1c acc (q27 (q1n acc x)).1 (q0d (q27 (q1n acc x)).2 4 [59]).1.2.1 (q0d (q27 (q1n acc x)).2 4 [59]).2:=rfl;rw [e];have hp:=rule_pro (h1.ok hx);rw [many_eq] at hp;rcases hp with hp | hp
 ·exact .inl (Qq hp h4.le)
 ·right
  rw [h4.err hp];exact hp
theorem qg9 {x:RdP} (hx:okRd x) (acc:List Rul.Rule) (he:x.2.2.2.1=0):q65 (q2c acc x).2<q65 x:=by
 have ha:=qfc hx acc;have hp:=qjo hx acc;have h1:=ha.le;have h2:=ha.fin;have h3:=hx.2.2.1;have e1:=ha.lst;unfold q65;rw [he,e1];rcases hp with hp | hp
 ·have:(bif (q2c acc x).2.2.2.2.1==0 then 1 else 0)≤1:=by cases (q2c acc x).2.2.2.2.1==0 <;> decide
  show _<1+_;omega
 ·rw [beq_eq_false_iff_ne.2 hp]
  show 0+_<1+_;omega
theorem qed {x:RdP} (hx:okRd x):Ahead x (q4j x).2.2:=by
 have h1:=q0w hx 1 Rul.q4o;have h2:=h1.trans (q0w (h1.ok hx) 1 []);have h3:=h2.trans (q0w (h2.ok hx) 1 Rul.wTo);have h4:=h3.trans (q0w (h3.ok hx) 1 []);exact h4.trans (q0w (h4.ok hx) 4 [59])
theorem rd0_ok (s:List UInt8):okRd (rd0 s):=by
 have hs:=small_lex s 0;refine ⟨hs.1,hs.2,?_,?_⟩
 ·show (0:Int)≤0
  omega
 ·show (0:Int)≤(((Lx.lex s).1.map tokP).length:Int)
  omega
abbrev q42 (p:List Rul.Rule×RdP) (s:List UInt8):Prop :=
 ((([],[],[]),p.2.2.2.2)=q18 s∧(([],[],[]),p.2.2.2.2)=q18 s)
abbrev q4w:Prop :=
 (([]:List UInt8)=[]∧([]:List UInt8)=[]∧True∧True)
abbrev qbj (p:List Rul.Rule×RdP) (r:Int×Int×Int×List UInt8) (r_2:Int×Int×Int×List UInt8):Prop :=
 (q4w∧(zE r.2.2.2∧zE r_2.2.2.2∧True∧True)∧(zE p.2.1∧zE p.2.2.1∧zE p.2.2.2.1∧zE p.2.2.2.2.1∧zE p.2.2.2.2.2∧True)∧True)
abbrev zRmH0_3 (p:List Rul.Rule×RdP) (s:List UInt8):Prop :=
 ((((q42 p s)∧(([],[],[]),p.2.2.2.2)=q18 s)∧((q42 p s)∧(q42 p s)∧(([],[],[]),p.2.2.2.2)=q18 s)∧(([],[],[]),p.2.2.2.2)=q18 s)∧(((q42 p s)∧(q42 p s)∧(([],[],[]),p.2.2.2.2)=q18 s)∧((q42 p s)∧(([],[],[]),p.2.2.2.2)=q18 s)∧(([],[],[]),p.2.2.2.2)=q18 s)∧(([],[],[]),p.2.2.2.2)=q18 s)
set_option maxRecDepth 100000 in
theorem gParse_vc (s:List UInt8) (h:gParse.pre s) :
  s.length≤(1000000:Nat)∧bif (Lx.lex s).2.1 != (0:Int) then (([],[],[]),(Lx.lex s).2)=q18 s else okRd (Q9 tokP (Lx.lex s).1,(0:Int),(s.length:Int),(0:Int),(0:Int))∧∀ (r:Int×Int×Int×List UInt8) (y:List (Int×Int×Int×List UInt8)×Int×Int×Int×Int),q0d (Q9 tokP (Lx.lex s).1,(0:Int),(s.length:Int),(0:Int),(0:Int)) (1:Int) [(114:UInt8),(117:UInt8),(108:UInt8),(101:UInt8),(115:UInt8)]=(r,y)→okRd y∧∀ (r:Int×Int×Int×List UInt8) (y_1:List (Int×Int×Int×List UInt8)×Int×Int×Int×Int),q0d y (1:Int) []=(r,y_1)→okRd y_1∧∀ (r_1:Int×Int×Int×List UInt8) (y:List (Int×Int×Int×List UInt8)×Int×Int×Int×Int),q0d y_1 (1:Int) [(116:UInt8),(111:UInt8)]=(r_1,y)→okRd y∧∀ (r_2:Int×Int×Int×List UInt8) (y_2:List (Int×Int×Int×List UInt8)×Int×Int×Int×Int),q0d y (1:Int) []=(r_2,y_2)→okRd y_2∧∀ (r_3:Int×Int×Int×List UInt8) (y:List (Int×Int×Int×List UInt8)×Int×Int×Int×Int),q0d y_2 (4:Int) [(59:UInt8)]=(r_3,y)→(∃ (p':List Rul.Rule×RdP),inRun s p'∧(True∧zE (Q9 tokP (Lx.lex s).1)∧zT3)∧((y.1=p'.2.1∧y.2.1=p'.2.2.1∧y.2.2.1=p'.2.2.2.1∧y.2.2.2.1=p'.2.2.2.2.1∧y.2.2.2.2=p'.2.2.2.2.2∧True)∧(zE r.2.2.2∧zE r_2.2.2.2∧True∧True)∧q4w∧True)∧(p'.1=[]∧True)∧zT7)∧∀ (p:List Rul.Rule×RdP),inRun s p→(bif p.2.2.2.2.1==(0:Int) then bif decide (p.2.2.1<(↑(Q9 tokP (Lx.lex s).1).length:Int)) then ∃ (p':Bool),p'=q4h p.1 p.2∧(true=p'∧True∧zE (Q9 tokP (Lx.lex s).1)∧zT3)∧(qbj p r r_2)∧(zE p.1∧True)∧zT7 else ∃ (p':Bool),p'=q4h p.1 p.2∧(((p.1.length:Int)==(0:Int))=p'∧True∧zE (Q9 tokP (Lx.lex s).1)∧zT3)∧(qbj p r r_2)∧(zE p.1∧True)∧zT7 else ∃ (p':Bool),p'=q4h p.1 p.2∧(false=p'∧True∧zE (Q9 tokP (Lx.lex s).1)∧zT3)∧(qbj p r r_2)∧(zE p.1∧True)∧zT7)∧∀ (p_1:Bool),p_1=q4h p.1 p.2→bif p_1 then ((bif (p.1.length:Int)==(80:Int) then ((0:Int)≤p.2.2.1∧p.2.2.1<(↑(Q9 tokP (Lx.lex s).1).length:Int))∧∃ (p':Bool),p'=q5l p.1 p.2∧((((Q9 tokP (Lx.lex s).1).getD p.2.2.1.toNat ((0:Int),(0:Int),(0:Int),[])).1==(3:Int))=p'∧True∧zE (Q9 tokP (Lx.lex s).1)∧zT3)∧(qbj p r r_2)∧(zE p.1∧True)∧zT7 else ∃ (p':Bool),p'=q5l p.1 p.2∧(false=p'∧True∧zE (Q9 tokP (Lx.lex s).1)∧zT3)∧(qbj p r r_2)∧(zE p.1∧True)∧zT7)∧∀ (p_2:Bool),p_2=q5l p.1 p.2→bif p_2 then ((0:Int)≤p.2.2.1∧p.2.2.1<(↑(Q9 tokP (Lx.lex s).1).length:Int))∧True∧∀ (r_4:Unit) (y:List (Int×Int×Int×List UInt8)×Int×Int×Int×Int),((),q0y p.2 (2:Int) ((Q9 tokP (Lx.lex s).1).getD p.2.2.1.toNat ((0:Int),(0:Int),(0:Int),[])).2.1)=(r_4,y)→∃ (p':RdP),p'=q1n p.1 p.2∧(True∧zE (Q9 tokP (Lx.lex s).1)∧zT3)∧((y.1=p'.1∧y.2.1=p'.2.1∧y.2.2.1=p'.2.2.1∧y.2.2.2.1=p'.2.2.2.1∧y.2.2.2.2=p'.2.2.2.2∧True)∧q4w∧(zE r.2.2.2∧zE r_2.2.2.2∧True∧True)∧True)∧(zE p.1∧True)∧zT7 else ∃ (p':RdP),p'=q1n p.1 p.2∧(True∧zE (Q9 tokP (Lx.lex s).1)∧zT3)∧((p.2.1=p'.1∧p.2.2.1=p'.2.1∧p.2.2.2.1=p'.2.2.1∧p.2.2.2.2.1=p'.2.2.2.1∧p.2.2.2.2.2=p'.2.2.2.2∧True)∧q4w∧(zE r.2.2.2∧zE r_2.2.2.2∧True∧True)∧True)∧(zE p.1∧True)∧zT7)∧∀ (p_2:RdP),p_2=q1n p.1 p.2→okRd p_2∧∀ (r_4:List UInt8) (y:List (Int×Int×Int×List UInt8)×Int×Int×Int×Int),q0b p_2 (1:Int) (9:Int)=(r_4,y)→okRd y∧∀ (r_5:Int×Int×Int×List UInt8) (y_3:List (Int×Int×Int×List UInt8)×Int×Int×Int×Int),q0d y (1:Int) [(116:UInt8),(111:UInt8)]=(r_5,y_3)→okRd y_3∧∀ (r_6:List UInt8) (y:List (Int×Int×Int×List UInt8)×Int×Int×Int×Int),q0b y_3 (0:Int) (9:Int)=(r_6,y)→(okRd y∧∀ (r_7:Bool) (y_4:List (Int×Int×Int×List UInt8)×Int×Int×Int×Int),(q4p y [(98:UInt8),(101:UInt8),(102:UInt8),(111:UInt8),(114:UInt8),(101:UInt8)],y)=(r_7,y_4)→bif r_7 then (zFit (y_4.2.1+(1:Int)))∧okRd (y_4.1,y_4.2.1+(1:Int),y_4.2.2)∧∀ (r_8:List UInt8) (y_5:List (Int×Int×Int×List UInt8)×Int×Int×Int×Int),q0b (y_4.1,y_4.2.1+(1:Int),y_4.2.2) (1:Int) (30:Int)=(r_8,y_5)→∃ (p':Rul.Rule×RdP),p'=q6p r_4 r_6 y∧(True∧zE (Q9 tokP (Lx.lex s).1)∧zT4)∧((y_5.1=p'.2.1∧y_5.2.1=p'.2.2.1∧y_5.2.2.1=p'.2.2.2.1∧y_5.2.2.2.1=p'.2.2.2.2.1∧y_5.2.2.2.2=p'.2.2.2.2.2∧True)∧(r_4=p'.1.1∧r_6=p'.1.2.1∧r_8=p'.1.2.2.1∧false=p'.1.2.2.2∧True)∧q4w∧(zE r.2.2.2∧zE r_2.2.2.2∧True∧True)∧True)∧(zE p.1∧True)∧zT7 else okRd y_4∧∀ (r_8:Bool) (y_5:List (Int×Int×Int×List UInt8)×Int×Int×Int×Int),(q4p y_4 [(97:UInt8),(116:UInt8)],y_4)=(r_8,y_5)→bif r_8 then (zFit (y_5.2.1+(1:Int)))∧okRd (y_5.1,y_5.2.1+(1:Int),y_5.2.2)∧∀ (r_9:Int×Int×Int×List UInt8) (y_6:List (Int×Int×Int×List UInt8)×Int×Int×Int×Int),q0d (y_5.1,y_5.2.1+(1:Int),y_5.2.2) (1:Int) [(101:UInt8),(110:UInt8),(100:UInt8)]=(r_9,y_6)→∃ (p':Rul.Rule×RdP),p'=q6p r_4 r_6 y∧(True∧zE (Q9 tokP (Lx.lex s).1)∧zT4)∧((y_6.1=p'.2.1∧y_6.2.1=p'.2.2.1∧y_6.2.2.1=p'.2.2.2.1∧y_6.2.2.2.1=p'.2.2.2.2.1∧y_6.2.2.2.2=p'.2.2.2.2.2∧True)∧(r_4=p'.1.1∧r_6=p'.1.2.1∧[]=p'.1.2.2.1∧true=p'.1.2.2.2∧True)∧q4w∧(zE r.2.2.2∧zE r_2.2.2.2∧True∧True)∧True)∧(zE p.1∧True)∧zT7 else ∃ (p':Rul.Rule×RdP),p'=q6p r_4 r_6 y∧(True∧zE (Q9 tokP (Lx.lex s).1)∧zT4)∧((y_5.1=p'.2.1∧y_5.2.1=p'.2.2.1∧y_5.2.2.1=p'.2.2.2.1∧y_5.2.2.2.1=p'.2.2.2.2.1∧y_5.2.2.2.2=p'.2.2.2.2.2∧True)∧(r_4=p'.1.1∧r_6=p'.1.2.1∧[]=p'.1.2.2.1∧false=p'.1.2.2.2∧True)∧q4w∧(zE r.2.2.2∧zE r_2.2.2.2∧True∧True)∧True)∧(zE p.1∧True)∧zT7)∧∀ (p_3:Rul.Rule×RdP),p_3=q6p r_4 r_6 y→okRd p_3.2∧∀ (r_7:Int×Int×Int×List UInt8) (y:List (Int×Int×Int×List UInt8)×Int×Int×Int×Int),q0d p_3.2 (4:Int) [(59:UInt8)]=(r_7,y)→(∃ (p':Nat),p'≤p.1.length∧((0:Int)=(p':Int)∧True∧zE (Q9 tokP (Lx.lex s).1)∧zT5)∧((y.1=(q1c (Q3 p' p.1) p_3.1 r_7.2.1 y).1∧y.2.1=(q1c (Q3 p' p.1) p_3.1 r_7.2.1 y).2.1∧y.2.2.1=(q1c (Q3 p' p.1) p_3.1 r_7.2.1 y).2.2.1∧y.2.2.2.1=(q1c (Q3 p' p.1) p_3.1 r_7.2.1 y).2.2.2.1∧y.2.2.2.2=(q1c (Q3 p' p.1) p_3.1 r_7.2.1 y).2.2.2.2∧True)∧q4w∧(zE r.2.2.2∧zE r_2.2.2.2∧True∧True)∧(zE p_3.1.1∧zE p_3.1.2.1∧zE p_3.1.2.2.1∧zE p_3.1.2.2.2∧True)∧(zE r_7.1∧zE r_7.2.1∧zE r_7.2.2.1∧zE r_7.2.2.2∧True)∧True)∧(zE p.1∧True)∧zT7)∧∀ (p_4:Nat),p_4≤p.1.length→bif decide ((p_4:Int)<(p.1.length:Int)) then (0≤(p_4:Int)∧(p_4:Int)<(p.1.length:Int))∧bif (p.1.getD (p_4:Int).toNat ([],[],[],false)).1==p_3.1.1&&((p.1.getD (p_4:Int).toNat ([],[],[],false)).2.1==p_3.1.2.1&&((p.1.getD (p_4:Int).toNat ([],[],[],false)).2.2.1==p_3.1.2.2.1&&((p.1.getD (p_4:Int).toNat ([],[],[],false)).2.2.2==p_3.1.2.2.2&&true))) then True∧∀ (r_8:Unit) (y_4:List (Int×Int×Int×List UInt8)×Int×Int×Int×Int),((),q0y (q1c (Q3 p_4 p.1) p_3.1 r_7.2.1 y) (8:Int) r_7.2.1)=(r_8,y_4)→(zFit ((p_4:Int)+1))∧∃ (p':Nat),p'≤p.1.length∧p.1.length-p'<p.1.length-p_4∧((p_4:Int)+1=(p':Int)∧True∧zE (Q9 tokP (Lx.lex s).1)∧zT5)∧((y_4.1=(q1c (Q3 p' p.1) p_3.1 r_7.2.1 y).1∧y_4.2.1=(q1c (Q3 p' p.1) p_3.1 r_7.2.1 y).2.1∧y_4.2.2.1=(q1c (Q3 p' p.1) p_3.1 r_7.2.1 y).2.2.1∧y_4.2.2.2.1=(q1c (Q3 p' p.1) p_3.1 r_7.2.1 y).2.2.2.1∧y_4.2.2.2.2=(q1c (Q3 p' p.1) p_3.1 r_7.2.1 y).2.2.2.2∧True)∧q4w∧(zE r.2.2.2∧zE r_2.2.2.2∧True∧True)∧(zE p_3.1.1∧zE p_3.1.2.1∧zE p_3.1.2.2.1∧zE p_3.1.2.2.2∧True)∧(zE r_7.1∧zE r_7.2.1∧zE r_7.2.2.1∧zE r_7.2.2.2∧True)∧True)∧(zE p.1∧True)∧zT7 else (zFit ((p_4:Int)+1))∧∃ (p':Nat),p'≤p.1.length∧p.1.length-p'<p.1.length-p_4∧((p_4:Int)+1=(p':Int)∧True∧zE (Q9 tokP (Lx.lex s).1)∧zT5)∧(((q1c (Q3 p_4 p.1) p_3.1 r_7.2.1 y).1=(q1c (Q3 p' p.1) p_3.1 r_7.2.1 y).1∧(q1c (Q3 p_4 p.1) p_3.1 r_7.2.1 y).2.1=(q1c (Q3 p' p.1) p_3.1 r_7.2.1 y).2.1∧(q1c (Q3 p_4 p.1) p_3.1 r_7.2.1 y).2.2.1=(q1c (Q3 p' p.1) p_3.1 r_7.2.1 y).2.2.1∧(q1c (Q3 p_4 p.1) p_3.1 r_7.2.1 y).2.2.2.1=(q1c (Q3 p' p.1) p_3.1 r_7.2.1 y).2.2.2.1∧(q1c (Q3 p_4 p.1) p_3.1 r_7.2.1 y).2.2.2.2=(q1c (Q3 p' p.1) p_3.1 r_7.2.1 y).2.2.2.2∧True)∧q4w∧(zE r.2.2.2∧zE r_2.2.2.2∧True∧True)∧(zE p_3.1.1∧zE p_3.1.2.1∧zE p_3.1.2.2.1∧zE p_3.1.2.2.2∧True)∧(zE r_7.1∧zE r_7.2.1∧zE r_7.2.2.1∧zE r_7.2.2.2∧True)∧True)∧(zE p.1∧True)∧zT7 else (p.1.length+[p_3.1].length)*(56:Nat)≤(140737488355328:Nat)∧∃ (p':List Rul.Rule×RdP),inRun s p'∧q65 p'.2<q65 p.2∧(True∧zE (Q9 tokP (Lx.lex s).1)∧zT3)∧(((q1c (Q3 p_4 p.1) p_3.1 r_7.2.1 y).1=p'.2.1∧(q1c (Q3 p_4 p.1) p_3.1 r_7.2.1 y).2.1=p'.2.2.1∧(q1c (Q3 p_4 p.1) p_3.1 r_7.2.1 y).2.2.1=p'.2.2.2.1∧(q1c (Q3 p_4 p.1) p_3.1 r_7.2.1 y).2.2.2.1=p'.2.2.2.2.1∧(q1c (Q3 p_4 p.1) p_3.1 r_7.2.1 y).2.2.2.2=p'.2.2.2.2.2∧True)∧(zE r.2.2.2∧zE r_2.2.2.2∧True∧True)∧q4w∧True)∧(p.1++[p_3.1]=p'.1∧True)∧zT7 else bif p.2.2.2.2.1 != (0:Int) then (((((q42 p s)∧(([],[],[]),p.2.2.2.2)=q18 s)∧(([],[],[]),p.2.2.2.2)=q18 s)∧(((q42 p s)∧(([],[],[]),p.2.2.2.2)=q18 s)∧((q42 p s)∧(q42 p s)∧(([],[],[]),p.2.2.2.2)=q18 s)∧(([],[],[]),p.2.2.2.2)=q18 s)∧(([],[],[]),p.2.2.2.2)=q18 s)∧(zRmH0_3 p s)∧(([],[],[]),p.2.2.2.2)=q18 s)∧((zRmH0_3 p s)∧((((q42 p s)∧(q42 p s)∧(([],[],[]),p.2.2.2.2)=q18 s)∧((q42 p s)∧(([],[],[]),p.2.2.2.2)=q18 s)∧(([],[],[]),p.2.2.2.2)=q18 s)∧(((q42 p s)∧(([],[],[]),p.2.2.2.2)=q18 s)∧(([],[],[]),p.2.2.2.2)=q18 s)∧(([],[],[]),p.2.2.2.2)=q18 s)∧(([],[],[]),p.2.2.2.2)=q18 s)∧(([],[],[]),p.2.2.2.2)=q18 s else ((r.2.2.2,r_2.2.2.2,p.1),(0:Int),(0:Int))=q18 s:=by
 delta q42 q4w qbj zRmH0_3 zFit zE zT3 zT4 zT5 zT7
 simp only [true_and,and_true,and_self];have h:s.length≤1000000:=h;refine ⟨h,bifP (λg=>?_) λg=>?_⟩
 ·have g:((Lx.lex s).2.1==0)=false:=by simpa using g
  unfold q18;rw [g];rfl
 have g:((Lx.lex s).2.1==0)=true:=by simpa using g
 have h0:=rd0_ok s;have a1:=q0w h0 1 Rul.q4o;refine ⟨h0,?_⟩;rintro r0 y hy;obtain ⟨rfl,rfl⟩:=q60 hy;clear hy;have h1:=a1.ok h0;have a2:=q0w h1 1 [];refine ⟨h1,?_⟩;rintro r1 y hy;obtain ⟨rfl,rfl⟩:=q60 hy;clear hy;have h2:=a2.ok h1;have a3:=q0w h2 1 Rul.wTo;refine ⟨h2,?_⟩;rintro r2 y hy;obtain ⟨rfl,rfl⟩:=q60 hy;clear hy;have h3:=a3.ok h2;have a4:=q0w h3 1 [];refine ⟨h3,?_⟩;rintro r3 y hy;obtain ⟨rfl,rfl⟩:=q60 hy;clear hy;have h4:=a4.ok h3;have a5:=q0w h4 4 [59];refine ⟨h4,?_⟩;rintro r4 y hy;obtain ⟨rfl,rfl⟩:=q60 hy;clear hy;have h5:=a5.ok h4;have hpg:q18 s=endR (q4j (rd0 s)).1 (q4j (rd0 s)).2.1 (runR (q65 (q4j (rd0 s)).2.2+1) [] (q4j (rd0 s)).2.2):=by
  unfold q18;rw [g];rfl
 have hlst:(q4j (rd0 s)).2.2.1=(Lx.lex s).1.map tokP:=(qed h0).lst;refine ⟨⟨([],(q4j (rd0 s)).2.2),⟨hlst,(qed h0).ok h0,Qt _,_,Nat.lt_succ_self _,rfl⟩,⟨rfl,rfl,rfl,rfl,rfl⟩,rfl⟩,?_⟩;rintro ⟨acc,x⟩ ⟨hl,hok,hacc,f,hf,hrun⟩;have hl:x.1=(Lx.lex s).1.map tokP:=hl;have hok:okRd x:=hok;have hacc:acc.length≤x.2.1.toNat+(bif x.2.2.2.1==0 then 0 else 1):=hacc
 have hf:q65 x<f:=hf;have hrun:runR (q65 (q4j (rd0 s)).2.2+1) [] (q4j (rd0 s)).2.2=runR f acc x:=hrun;obtain ⟨f,rfl⟩:∃ f',f=f'+1:=⟨f-1,by omega⟩
 rw [hrun] at hpg;have hrn:runR (f+1) acc x=bif q4h acc x then runR f (q2c acc x).1 (q2c acc x).2 else (acc,x):=rfl
 rw [← hl];have c0:((acc.length:Int)==0)=(acc.length==0):=by rw [Qv,beq_iff_eq,beq_iff_eq];omega
 have c8:((acc.length:Int)==80)=(acc.length==80):=by rw [Qv,beq_iff_eq,beq_iff_eq];omega
 have hxl:x.1.length≤1000000:=hok.1;have hx0:0≤x.2.1:=hok.2.2.1;have hx1:x.2.1≤x.1.length:=hok.2.2.2;dsimp only;rw [c0,c8];refine ⟨?_,λb hb=>?_⟩
 ·unfold q4h
  refine bifP (λe1=>bifP (λe2=>?_) λe2=>?_) λe1=>?_
  ·exact ⟨_,rfl,by rw [e1,e2];rfl⟩
  ·exact ⟨_,rfl,by rw [e1,e2];rfl⟩
  ·exact ⟨_,rfl,by rw [e1];rfl⟩
 refine bifP (λeb=>?_) λeb=>?_
 ·rw [eb] at hb
  rw [← hb] at hrn;have hrn:runR (f+1) acc x=runR f (q2c acc x).1 (q2c acc x).2:=hrn;have hm:=hb.symm;unfold q4h at hm;rw [Qd,Bool.or_eq_true] at hm;have he:x.2.2.2.1=0:=by simpa using hm.1
  rw [he] at hacc;have hacc:acc.length≤x.2.1.toNat+0:=hacc;have hlt:0<acc.length→x.2.1<x.1.length:=λh0=>by
   rcases hm.2 with hm | hm
   ·exact of_decide_eq_true hm
   ·have:acc.length=0:=by simpa using hm
    omega
  have hful:q5l acc x=true→x.2.1<x.1.length:=λhq=>hlt (by
   unfold q5l at hq;rw [Qd] at hq;have:acc.length=80:=by simpa using hq.1
   omega)
  have hmo:=qaw hok acc;have hk:=hmo.ok hok;refine ⟨⟨?_,?_⟩,?_⟩
  ·refine bifP (λe1=>?_) λe1=>⟨_,rfl,by unfold q5l;rw [e1];rfl⟩
   have:acc.length=80:=by simpa using e1
   exact ⟨⟨hx0,hlt (by omega)⟩,_,rfl,by unfold q5l;rw [e1];rfl⟩
  ·rintro q hq
   refine bifP (λe1=>?_) λe1=>?_
   ·rw [e1] at hq
    refine ⟨⟨hx0,hful hq.symm⟩,?_⟩;rintro _ y hy;have hy:q0y x 2 (x.1.getD x.2.1.toNat (0,0,0,[])).2.1=y:=(q60 hy).2;subst hy;refine ⟨_,rfl,?_⟩;unfold q1n;rw [← hq];exact ⟨rfl,rfl,rfl,rfl,rfl⟩
   ·rw [e1] at hq
    refine ⟨_,rfl,?_⟩;unfold q1n;rw [← hq];exact ⟨rfl,rfl,rfl,rfl,rfl⟩
  rintro z rfl;refine ⟨hk,?_⟩;rintro w1 y hy;obtain ⟨rfl,rfl⟩:=q60 hy;clear hy;have b1:=q47 hk 1 9;have k1:=b1.ok hk;refine ⟨k1,?_⟩;rintro w2 y hy;obtain ⟨rfl,rfl⟩:=q60 hy;clear hy;have b2:=q0w k1 1 Rul.wTo;have k2:=b2.ok k1;refine ⟨k2,?_⟩;rintro w3 y hy;obtain ⟨rfl,rfl⟩:=q60 hy;clear hy;have b3:=q47 k2 0 9;have k3:=b3.ok k2;have hru:q27 (q1n acc x)=q6p (q0b (q1n acc x) 1 9).1 (q0b (q0d (q0b (q1n acc x) 1 9).2 1 Rul.wTo).2 0 9).1 (q0b (q0d (q0b (q1n acc x) 1 9).2 1 Rul.wTo).2 0 9).2:=rfl;have k4:=(qba hk).ok hk;rw [hru] at k4;refine ⟨⟨k3,?_⟩,?_⟩
  ·rintro sb y hy
   obtain ⟨hsb,rfl⟩:=q60 hy;clear hy;have hsb:q4p (q0b (q0d (q0b (q1n acc x) 1 9).2 1 Rul.wTo).2 0 9).2 Rul.q76=sb:=hsb;subst hsb;unfold q6p;generalize (q0b (q0d (q0b (q1n acc x) 1 9).2 1 Rul.wTo).2 0 9).1=F2 at *
   generalize (q0b (q0d (q0b (q1n acc x) 1 9).2 1 Rul.wTo).2 0 9).2=Y at *
   have kl:Y.1.length≤1000000:=k3.1;have k0:0≤Y.2.1:=k3.2.2.1;have kf:Y.2.1≤Y.1.length:=k3.2.2.2;refine bifP (λe1=>?_) λe1=>?_
   ·have k5:=(q68 k3 (qho e1)).ok k3
    refine ⟨⟨by omega,by omega⟩,k5,?_⟩
    rintro w5 y hy;obtain ⟨rfl,rfl⟩:=q60 hy;refine ⟨_,rfl,?_⟩;rw [e1];exact ⟨⟨rfl,rfl,rfl,rfl,rfl⟩,rfl,rfl,rfl,rfl⟩
   ·refine ⟨k3,?_⟩
    rintro sb y hy;obtain ⟨hsb,rfl⟩:=q60 hy;clear hy;have hsb:q4p Y Rul.wAt=sb:=hsb;subst hsb;rw [e1];dsimp only;refine bifP (λe2=>?_) λe2=>?_
    ·have k5:=(q68 k3 (qho e2)).ok k3
     refine ⟨⟨by omega,by omega⟩,k5,?_⟩
     rintro w5 y hy;obtain ⟨rfl,rfl⟩:=q60 hy;refine ⟨_,rfl,?_⟩;rw [e2];exact ⟨⟨rfl,rfl,rfl,rfl,rfl⟩,rfl,rfl,rfl,rfl⟩
    ·refine ⟨_,rfl,?_⟩
     rw [e2];exact ⟨⟨rfl,rfl,rfl,rfl,rfl⟩,rfl,rfl,rfl,rfl⟩
  rintro q hq;rw [← hru] at hq;rw [← hru] at k4;subst hq;refine ⟨k4,?_⟩;rintro st y hy;obtain ⟨rfl,rfl⟩:=q60 hy;clear hy;have tw0:∀ (r:Rul.Rule) (a:Int) (y:RdP),q1c [] r a y=y:=λ_ _ _=>rfl
  refine ⟨⟨0,Qt _,rfl,⟨rfl,rfl,rfl,rfl,rfl⟩⟩,λk hk'=>bifP (λe1=>?_) λe1=>?_⟩
  ·have hlt':k<acc.length:=by have:=of_decide_eq_true e1;omega
   have hti:((k:Int)).toNat=k:=rfl;have htk:acc.take (k+1)=acc.take k++[acc.getD k q0n]:=by
    rw [Qr,getD_some acc q0n k hlt'];rfl
   have hal:acc.length≤1000000:=by omega
   rw [hti];have hsn:=twice_snoc (acc.take k) (acc.getD k q0n) (q27 (q1n acc x)).1 (q0d (q27 (q1n acc x)).2 4 [59]).1.2.1 (q0d (q27 (q1n acc x)).2 4 [59]).2;rw [← htk] at hsn;have hbeq:((acc.getD k q0n)==(q27 (q1n acc x)).1)=((acc.getD k q0n).1==(q27 (q1n acc x)).1.1&&((acc.getD k q0n).2.1==(q27 (q1n acc x)).1.2.1&&((acc.getD k q0n).2.2.1==(q27 (q1n acc x)).1.2.2.1&&((acc.getD k q0n).2.2.2==(q27 (q1n acc x)).1.2.2.2&&true)))):=by
    rw [Bool.and_true];rfl
   rw [hbeq] at hsn;refine ⟨⟨by omega,by omega⟩,bifP (λe2=>?_) λe2=>?_⟩
   ·rw [e2] at hsn
    rintro _ y hy;have hy:=(q60 hy).2;refine ⟨⟨by omega,by omega⟩,k+1,by omega,by omega,by omega,?_⟩
    rw [hsn];rw [← hy];exact ⟨rfl,rfl,rfl,rfl,rfl⟩
   ·rw [e2] at hsn
    refine ⟨⟨by omega,by omega⟩,k+1,by omega,by omega,by omega,?_⟩
    rw [hsn];exact ⟨rfl,rfl,rfl,rfl,rfl⟩
  ·have hge:k=acc.length:=by have:=of_decide_eq_false e1;omega
   subst hge;rw [List.take_length];have hla:=qfc hok acc;have hll:=hla.le;refine ⟨by rw [Ql];omega,q2c acc x,⟨by rw [hla.lst];exact hl,hla.ok hok,?_,f,?_,hrun.trans hrn⟩,qg9 hok acc he,⟨rfl,rfl,rfl,rfl,rfl⟩,rfl⟩
   ·show (acc++[_]).length≤_
    rw [Qe,Ql];rcases qjo hok acc with hp | hp
    ·omega
    ·rw [beq_eq_false_iff_ne.2 hp]
     show _≤_+1;omega
   ·have:=qg9 hok acc he
    omega
 ·rw [eb] at hb
  rw [← hb] at hrn;have hrn:runR (f+1) acc x=(acc,x):=hrn;rw [hrn] at hpg;rw [hpg];refine bifP (λe1=>?_) λe1=>?_
  ·have e1:(x.2.2.2.1==0)=false:=by simpa using e1
   unfold endR;rw [e1];rfl
  ·have e1:(x.2.2.2.1==0)=true:=by simpa using e1
   rw [hl];unfold endR;rw [e1];rfl
set_option maxRecDepth 100000 in
theorem gParse_holds:gParse.Holds Tryz.prog:=by
 refine holdsFR (cons:=[gLex]) (rcs:=[gFault,gSees,gTake,gRText]) (inls:=[]) (annsI:=λ_=>[]) Tryz.func11 (by kernel_rfl) (by kernel_rfl) mixed (by kernel_rfl) (all_cons gLex_holds all_nil) (λc h=>by
  rcases Qi.1 h with rfl | h
  ·exact qbp
  rcases Qi.1 h with rfl | h
  ·exact gSees_holds
  rcases Qi.1 h with rfl | h
  ·exact qil
  obtain rfl:=Qh.1 h;exact gRText_holds) q2b.nil (λs=>anGParse s) λs hp=>?_
 refine cast ?_ (gParse_vc s hp)
 kernel_rfl
open Go.Lib Go.Sort
abbrev encS:List UInt8→Value:=λs=>.string (bs s)
def putK (xs:List (List UInt8)) (s:List UInt8):Nat:=(xs.takeWhile λa=>Qb a s).length
def putP (xs:List (List UInt8)) (s:List UInt8):List (List UInt8) :=
 if 200<xs.length∨xs[putK xs s]? = some s then xs else xs.take (putK xs s)++s::xs.drop (putK xs s)
theorem putK_le (xs:List (List UInt8)) (s:List UInt8):putK xs s≤xs.length:=by
 unfold putK;exact (Qm _).length_le
theorem putK_lt {xs:List (List UInt8)} {s:List UInt8} {k:Nat} (h:k<putK xs s):∃ a,xs[k]? = some a∧Qb a s=true:=by
 have hp:xs.takeWhile (λa=>Qb a s) <+: xs:=Qm _
 have hk:k<(xs.takeWhile λa=>Qb a s).length:=h
 refine ⟨(xs.takeWhile λa=>Qb a s)[k],?_,?_⟩
 ·obtain ⟨r,hr⟩:=hp
  conv=>lhs;rw [← hr]
  rw [List.getElem?_append_left hk,Qk hk]
 ·have:=List.all_takeWhile (l:=xs) (p:=λa=>Qb a s)
  rw [List.all_eq_true] at this;exact this _ (List.getElem_mem hk)
theorem putK_at {xs:List (List UInt8)} {s a:List UInt8} (h:xs[putK xs s]? = some a):Qb a s=false:=by
 induction xs with
 | nil=>cases h
 | cons x xs ih =>
  unfold putK at h ih;rw [List.takeWhile_cons] at h;cases hx:Qb x s
  ·rw [hx] at h
   injection h with h;rw [← h];exact hx
  ·rw [hx] at h
   exact ih h
theorem q7v (s:List UInt8):(bs s).toList=s:=q8d s
set_option maxHeartbeats 4000000 in
set_option maxRecDepth 1000000 in
theorem put_stay (w:World) (g cap:Nat) (xs:List (List UInt8)) (s:List UInt8) (hH:Holds encS w g 0 xs.toArray) (hl:xs.length≤1000000) (hcap:xs.length≤cap) (hs:s.length≤1000000)
  (hst:200<xs.length∨xs[putK xs s]? = some s) :
  Calls Tryz.prog 28 #[.slice (some ⟨g,0,none⟩) xs.length cap,.string (bs s),.int .i64 200] w λe w'=>e=.returned (.slice (some ⟨g,0,none⟩) xs.length cap)∧∃ q,w'=w.drewN q:=by
 have hcell:∀ k a,xs[k]? = some a→w.cell? ⟨g,k,none⟩=some (.string (bs a)):=λk a h=>by
  have hk:=(Qj.1 h).1;have:=(hH k (by simpa using hk)).1
  rw [Nat.zero_add] at this;rw [this,getElem!_pos xs.toArray k (by simpa using hk)]
  have e:xs.toArray[k]=a:=by simpa using (Qj.1 h).2
  rw [e]
 clear hH;have hKle:=putK_le xs s;have HC:Aside (∀ k a,xs[k]? = some a→w.cell? ⟨g,k,none⟩=some (.string (bs a))):=hcell;have HST:Aside (200<xs.length∨xs[putK xs s]? = some s):=hst;clear hcell hst
 go_enter Tryz.func28,Tryz.ntmps28
 go_wp2
 go_loopg [7] xs.length (λgh s7 wr=>∃ k q:Nat,s7=.int .i64 k∧k≤putK xs s∧xs.length-k≤gh∧wr=w.drewN q)
 case atStart=>exact ⟨0,0,rfl,Qt _,by omega,rfl⟩
 case round =>
  obtain ⟨k,q,rfl,hk,hg,rfl⟩:=hrel;by_cases hlt:k<putK xs s
  ·obtain ⟨a,ha,hless⟩:=putK_lt hlt
   have hc:=HC.out k a ha;have hlx:(k:Int)<(xs.length:Int):=by omega
   have AA:Aside (xs[k]? = some a):=ha;clear ha;rw [← q7v a,← q7v s] at hless
   go_wp2
   go_roundg (xs.length-(k+1))
   case measure=>omega
   case rel=>exact ⟨k+1,q,by go_num,by omega,Qs _,rfl⟩
  ·obtain rfl:k=putK xs s:=by omega
   by_cases hn:putK xs s<xs.length
   ·obtain ⟨a,ha⟩:∃ a,xs[putK xs s]? = some a:=⟨_,Qk hn⟩
    have hc:=HC.out _ a ha;have hless:=putK_at ha;have hlx:(putK xs s:Int)<(xs.length:Int):=by omega
    have AA:Aside (xs[putK xs s]? = some a):=ha;clear ha;rw [← q7v a,← q7v s] at hless;by_cases h2:200<xs.length
    ·have h3:(200:Int)<(xs.length:Int):=by omega
     go_wp2
     go_ret
     exact ⟨rfl,q,rfl⟩
    ·have h3:(xs.length:Int)≤200:=by omega
     have he:((bs a).toList==(bs s).toList)=true:=by
      rw [q7v,q7v];have:=HST.out.resolve_left h2;rw [AA.out] at this;injection this with this;rw [this];exact beq_self_eq_true _
     go_wp2
     go_ret
     exact ⟨rfl,q,rfl⟩
   ·have h2:200<xs.length:=by
     rcases HST.out with h | h
     ·exact h
     ·rw [List.getElem?_eq_none (by omega)] at h;cases h
    have h3:(200:Int)<(xs.length:Int):=by omega
    have hlx:(xs.length:Int)≤(putK xs s:Int):=by omega
    go_wp2
    go_ret
    exact ⟨rfl,q,rfl⟩
end Go.Proofs.YtlmbfijhkcmncaaGreatDoor

/-
  Several texts in one: RmN, RmO, RmP, RmS, RmU, RmV, RmY, RmZ, RnP, RnA, RnB, RnC, RmW.
-/
import Derived.Test.YtlmbfijhkcmncaaGreatDoorPS
import Derived.Maps.AppendAt
import Derived.Test.YtlmbfijhkcmncaaGreatDoorPO
import Derived.Deep.RegionHeld3
import Derived.Deep.RegionWith
import Derived.Deep.OwnRows
open List renaming getElem?_eq_getElem→Q0,getD_eq_getElem?_getD→Q7,getElem?_eq_some_iff→Q8,length_replicate→Q9,getElem?_replicate→Qd,length_set→Qe,getElem?_set_self→Qh,getElem?_set_ne→Qj,replicate→Ql,length_take→Qm,length→Qo,foldl_cons→Qp,getElem?_set→Qr,mem_map→Qt,mem_cons_of_mem→Qu,mem_of_mem_take→Qv,mem_of_getElem?→Qw,length_append→Qx,mem_cons_self→Qy,take_add_one→QA,getElem?_append_left→QD,length_cons→QG,take_of_length_le→QJ,set_append_right→QK,takeWhile_cons→QP,take_succ_cons→QQ,drop_succ_cons→QR,getElem?_take→QU,foldl_append→QV,getElem?_map→QW,any_eq_true→QY,map_append→W9,mem_append→Wd,length_map→Wh,mem_range→Wi,take_zero→Wj,drop_zero→Wl
open Nat renaming le_refl→Q3,lt_of_lt_of_le→Qc,zero_add→Qg,zero_le→Qn,le_trans→Qq,min_eq_right→QZ,min_eq_left→We
open Option.some renaming inj→Qa
open Go.Sort renaming ahead→Qb
open Go.Lib renaming holds_of_ownsRow→Qf,ownsRow_putRow→QS
open Array renaming toList_setIfInBounds→Qi,getElem?_eq_some_iff→Qz,getElem?_eq_getElem→QE,size_setIfInBounds→QF,getElem?_toList→QN,length_toList→QO
open Go.Value renaming slice→Qk,oneCell'→QL
open Bool renaming and_eq_true→Qs
open Go.World renaming ownsRow_nil→QC
open Go.Op renaming bytesLess→QH
set_option linter.unusedVariables false
namespace Go.Proofs.YtlmbfijhkcmncaaGreatDoor
open Go.RowKit Go.Lib Go.Sort R
theorem info_strR:(Tryz.prog.info? 9).map (λi=>(i.zero,i.size,i.bytes))=some (some (.string { data:=#[] }),1,16):=by kernel_rfl
theorem hidden {p:Prop} (h:p):Aside p:=h
theorem qjs (xs:List (List UInt8)) (i:Nat) (z:List UInt8) (h:i<xs.length):(xs.take (i+1)++z::xs.drop (i+1)).set (i+1) (xs.getD i [])=xs.take i++xs.getD i []::xs.drop i:=by
 have hl:(xs.take (i+1)).length=i+1:=by rw [Qm];omega
 rw [QK _ _ (by omega),hl,Nat.sub_self]
 show xs.take (i+1)++xs.getD i []::xs.drop (i+1)=_;have hd:=List.drop_eq_getElem_cons h;have hg:xs.getD i []=xs[i]:=by rw [Q7,Q0 h];rfl
 rw [hd,hg,QA,Q0 h,List.append_assoc];rfl
theorem set_mid (xs:List (List UInt8)) (k:Nat) (z s:List UInt8) (h:k≤xs.length):(xs.take k++z::xs.drop k).set k s=xs.take k++s::xs.drop k:=by
 have hl:(xs.take k).length=k:=by rw [Qm];omega
 rw [QK _ _ (by omega),hl,Nat.sub_self]
 rfl
theorem put_grown (w:World) (q g:Nat) (d:Array (List UInt8)):w.grownBy (putRow encS (Qb w q) g 0 d) (some g) :=
 ⟨rfl,rfl,rfl,by simp [Sort.putRow,Sort.mapBlock,Qb],λk hk hne=>by
  have:g≠k:=λe=>hne (by rw [e])
  simp [Sort.putRow,Sort.mapBlock,Qb,Array.getElem?_modify,this]⟩
theorem q5v (w:World) (q:Nat) (o:Obj) (r:Option Nat):w.grownBy ((w.drewN q).alloc o) r:=by
 have h:=(q02 (q13 (q03 w) q) o:Below w.heap.size w ((w.drewN q).alloc o));exact ⟨h.os,h.tape,h.output,h.size,λk hk _=>h.block k hk⟩
theorem put_fin {w w1 w4:World} {base g g1 cap1 N q2:Nat} {xs zs ys:List (List UInt8)} {dk2:Array (List UInt8)} {W:World} (hN:N=xs.length+1) (ho:w4.ownsRow base 9 1 (.slice (some ⟨g1,0,none⟩) N cap1) N (zs.map encS))
  (hg4:w1.grownBy w4 (some g)) (h1:w.grownBy w1 (some g)) (hb:(Qk (some ⟨g1,0,none⟩) N cap1).ownBlock=some g∨(Qk (some ⟨g1,0,none⟩) N cap1).ownBlock=some w1.heap.size)
  (hset:W=putRow encS (Qb w4 q2) g1 0 dk2) (hds:dk2.size=xs.length+1) (hys:dk2.toList=ys) :
  W.ownsRow base 9 1 (.slice (some ⟨g1,0,none⟩) N cap1) (xs.length+1) (ys.map encS)∧w.grownBy W (some g)∧((Qk (some ⟨g1,0,none⟩) N cap1).ownBlock=some g∨∀ g',(Qk (some ⟨g1,0,none⟩) N cap1).ownBlock=some g'→w.heap.size≤g'):=by
 subst hset;subst hys;have hb':g1=g∨g1=w1.heap.size:=hb.imp (λh=>Qa h) (λh=>Qa h)
 have hsz:=h1.size;refine ⟨?_,?_,?_⟩
 ·have:=QS (q:=q2) (k:=N) (ys:=dk2.toList) ho (by rw [QO,hds,hN]) (Q3 _)
  rw [QJ (by rw [QO,hds,hN];exact Q3 _)] at this
  rw [← hN];exact this
 ·have h14:=h1.trans hg4
  have hp:=put_grown w4 q2 g1 dk2;refine ⟨hp.os.trans h14.os,hp.tape.trans h14.tape,hp.output.trans h14.output,Qq h14.size hp.size,λk hk hne=>?_⟩
  have hk1:k≠g1:=by
   rcases hb' with h | h
   ·rw [h];exact λe=>hne (by rw [e])
   ·omega
  exact (hp.block k (Qc hk h14.size) (λe=>hk1 (Qa e))).trans (h14.block k hk hne)
 ·rcases hb' with h | h
  ·left;rw [h];rfl
  ·right
   intro g' hg';have:g1=g':=Qa hg';omega
set_option maxHeartbeats 4000000 in
set_option maxRecDepth 1000000 in
theorem put_ins (w:World) (base g cap:Nat) (xs:List (List UInt8)) (s:List UInt8) (hbase:base≤w.heap.size) (hown:w.ownsRow base 9 1 (.slice (some ⟨g,0,none⟩) xs.length cap) xs.length (xs.map encS)) (hl:xs.length≤200) (hs:s.length≤1000000)
  (hst:xs[putK xs s]? ≠ some s) :
  Calls Tryz.prog 28 #[.slice (some ⟨g,0,none⟩) xs.length cap,.string (bs s),.int .i64 200] w λe w'=>∃ v',e=.returned v'∧w'.ownsRow base 9 1 v' (xs.length+1) ((xs.take (putK xs s)++s::xs.drop (putK xs s)).map encS)∧w.grownBy w' (some g)∧(v'.ownBlock=some g∨∀ g',v'.ownBlock=some g'→w.heap.size≤g'):=by
 obtain ⟨g',cap',hv,hb,hg,hn,hm,_,hH⟩:=Qf hown (λh=>by cases h)
 injection hv with h1 _ h2;injection h1 with h1;injection h1 with h1;subst h1;subst h2;have hcell:∀ k a,xs[k]? = some a→w.cell? ⟨g,k,none⟩=some (.string (bs a)):=λk a h=>by
  have hk:=(Q8.1 h).1;have:=(hH k (by simpa using hk)).1
  rw [Qg] at this;rw [this,getElem!_pos xs.toArray k (by simpa using hk)]
  have e:xs.toArray[k]=a:=by simpa using (Q8.1 h).2
  rw [e]
 clear hH;have hKle:=putK_le xs s;have HC:Aside (∀ k a,xs[k]? = some a→w.cell? ⟨g,k,none⟩=some (.string (bs a))):=hcell;have HST:Aside (xs[putK xs s]? ≠ some s):=hst;have HOWN:Aside (w.ownsRow base 9 1 (.slice (some ⟨g,0,none⟩) xs.length cap) xs.length (xs.map encS)):=hown;have HM:Aside (xs.length≤cap∧cap≤maxLen):=⟨hn,hm⟩;obtain ⟨i0,hi0,hz0,hz1,hz2⟩:=info_parts info_strR;clear hcell hst hown hm hn
 go_enter Tryz.func28,Tryz.ntmps28
 go_wp2
 go_loopg [7] xs.length (λgh s7 wr=>∃ k q:Nat,s7=.int .i64 k∧k≤putK xs s∧xs.length-k≤gh∧wr=w.drewN q)
 case atStart=>exact ⟨0,0,rfl,Qn _,by omega,rfl⟩
 case round =>
  obtain ⟨k,q,rfl,hk,hgg,rfl⟩:=hrel;by_cases hlt:k<putK xs s
  ·obtain ⟨a,ha,hless⟩:=putK_lt hlt
   have hc:=HC.out k a ha;have hlx:(k:Int)<(xs.length:Int):=by omega
   have AA:Aside (xs[k]? = some a):=ha;clear ha;rw [← q7v a,← q7v s] at hless
   go_wp2
   go_roundg (xs.length-(k+1))
   case measure=>omega
   case rel=>exact ⟨k+1,q,by go_num,by omega,Q3 _,rfl⟩
  ·obtain rfl:k=putK xs s:=by omega
   have h3:(xs.length:Int)≤200:=by omega
   by_cases hn:putK xs s<xs.length
   ·obtain ⟨a,ha⟩:∃ a,xs[putK xs s]? = some a:=⟨_,Q0 hn⟩
    have hc:=HC.out _ a ha;have hless:=putK_at ha;have hlx:(putK xs s:Int)<(xs.length:Int):=by omega
    have he:((bs a).toList==(bs s).toList)=false:=by
     rw [q7v,q7v,beq_eq_false_iff_ne];exact λe=>HST.out (by rw [ha,e])
    have AA:Aside (xs[putK xs s]? = some a):=ha;clear ha;rw [← q7v a,← q7v s] at hless
    go_wp2_with (first | (at_builtin;refine wpList_append_own_at _ rfl _ _ 25 rfl base 9 i0 (.string { data:=#[] }) 1 16 Tryz.underlying25 hi0 hz0 hz1 hz2 rfl (by decide) _ xs.length (xs.map encS) rfl (q31 HOWN.out (q02 (q13 (q03 w) _) _)) ⟨w.heap.size,0,none⟩ 1 1 [.string { data:=#[] }] rfl rfl (by exact cell_one_new _ _ _) (by simp [QL]) (by unfold maxLen;omega) (by omega) (by simp;omega) ?_;intro v' w4 hown4 hg4 _ hblk4))
    have hown4:w4.ownsRow base 9 1 v' (xs.length+1) ((xs++[[]]).map encS):=by rw [W9];exact hown4
    obtain ⟨g1,cap1,rfl,hb1,hg1,hn1,hm1,_,hH1⟩:=Qf hown4 (λh=>by rw [h] at hown4;rcases hown4.2 with ⟨_,h0⟩ | ⟨_,_,_,h0,_⟩ <;> cases h0)
    have HO4:Aside (w4.ownsRow base 9 1 (.slice (some ⟨g1,0,none⟩) (xs.length+1) cap1) (xs.length+1) ((xs++[[]]).map encS)):=hown4;have HG4:=hidden hg4;have HB4:=hidden hblk4;clear hown4 hg4 hblk4 hc hless he hi0 hz0 hz1 hz2 hk hgg hlt h3 hn hlx hb1 hg1 hn1 hm1 AA;obtain ⟨N,hN⟩:∃ N,N=xs.length+1:=⟨_,rfl⟩;have hN2:N≤201:=by omega
    rw [← hN] at HO4 ⊢;have hNa:xs.length+1≤N:=by omega
    have hNb:N≤xs.length+1:=by omega
    have HN:=hidden hN;clear hN;have hH1:Holds encS w4 g1 0 (xs++[[]]).toArray:=hH1;have HH1:=hidden hH1;clear hH1
    go_wp2
    have hu:Tryz.prog.underlying 25=some (.slice (Tryz.prog.elem 25)):=by kernel_rfl
    have hq:=run_len_slice (P:=Tryz.prog) (w:=w4) 25 3 (some ⟨g1,0,none⟩) N cap1 hu
    erw [hq]
    clear hq hu
    go_wp2
    go_loopg [8] (xs.length+1) (λgh s8 wr=>∃ (j q2:Nat) (z:List UInt8) (dk:Array (List UInt8)),s8=.int .i64 j∧putK xs s≤j∧j≤xs.length∧j-putK xs s≤gh∧wr=putRow encS (Qb w4 q2) g1 0 dk∧dk.toList=xs.take j++z::xs.drop j)
    case atStart =>
     refine ⟨xs.length,0,[],(xs++[[]]).toArray,by go_num,by omega,Q3 _,by omega,(by rw [show Qb w4 0=w4 from rfl];exact (putRow_self encS w4 g1 0 _ HH1.out).symm),by simp⟩
    case round =>
     obtain ⟨j,q2,z,dk,rfl,hj1,hj2,hjg,hwr,hdk⟩:=hrel;have hds:dk.size=xs.length+1:=by
      have:=congrArg Qo hdk
      simp at this;omega
     have hHk:Holds encS wr g1 0 dk:=by rw [hwr];exact holds_putRow encS _ g1 0 _ dk (holds_ahead encS w4 q2 g1 0 _ HH1.out) (by rw [hds];simp)
     have W2:Aside (wr=putRow encS (Qb w4 q2) g1 0 dk):=hwr;have D2:Aside (dk.toList=xs.take j++z::xs.drop j):=hdk;clear hwr hdk;by_cases hlt2:putK xs s<j
     ·obtain ⟨cm,_⟩:=hHk (j-1) (by omega)
      obtain ⟨ck,fk⟩:=hHk j (by omega)
      rw [Qg] at cm ck fk;clear hHk;have hx:dk[j-1]! = xs.getD (j-1) []:=by
       have h1:dk.toList[j-1]? = some (xs.getD (j-1) []):=by
        rw [D2.out,QD (by rw [Qm];omega),QU,if_pos (by omega),getD_some xs [] (j-1) (by omega)]
       rw [getElem!_pos dk (j-1) (by omega)]
       rw [QN,QE (by omega)] at h1
       exact Qa h1
      rw [hx] at cm;generalize hxe:xs.getD (j-1) []=x at cm;generalize dk[j]! = old at ck;have XE:=hidden hxe;clear hx hxe;have DS:=hidden hds;clear hds
      change wr.cell? ⟨g1,j-1,none⟩=some (.string (bs x)) at cm
      change wr.cell? ⟨g1,j,none⟩=some (.string (bs old)) at ck
      obtain ⟨i,rfl⟩:∃ i,j=i+1:=⟨j-1,by omega⟩
      have pk:(i:Int)<(N:Int):=by omega
      have pk1:(i:Int)+1<(N:Int):=by omega
      have pk2:(putK xs s:Int)<(i:Int)+1:=by omega
      change wr.cell? ⟨g1,i,none⟩=some (.string (bs x)) at cm
      go_wp2
      go_roundg (i-putK xs s)
      case measure=>omega
      case rel =>
       refine ⟨i,q2,xs.getD i [],dk.setIfInBounds (i+1) x,by go_num,by omega,by omega,Q3 _,?_,?_⟩
       ·have hset:=putRow_set encS (Qb w4 q2) g1 0 dk (i+1) x (by rw [DS.out];omega)
        rw [Qg] at hset;rw [W2.out];exact hset
       ·rw [Qi,D2.out,← XE.out,show i+1-1=i from rfl]
        exact qjs xs i z (by omega)
     ·obtain rfl:j=putK xs s:=by omega
      obtain ⟨ck,fk⟩:=hHk (putK xs s) (by omega)
      rw [Qg] at ck fk;clear hHk;generalize dk[putK xs s]! = old at ck;have DS:=hidden hds;clear hds
      change wr.cell? ⟨g1,putK xs s,none⟩=some (.string (bs old)) at ck
      have pk1:(putK xs s:Int)<(N:Int):=by omega
      go_wp2
      go_ret
      have hset:=putRow_set encS (Qb w4 q2) g1 0 dk (putK xs s) s (by rw [DS.out];omega)
      rw [Qg] at hset;have hys:(dk.setIfInBounds (putK xs s) s).toList=xs.take (putK xs s)++s::xs.drop (putK xs s):=by
       rw [Qi,D2.out];exact set_mid xs _ z s hKle
      rw [W2.out];exact ⟨_,rfl,put_fin HN.out HO4.out HG4.out (q5v w _ _ _) HB4.out hset (by rw [QF];exact DS.out) hys⟩
   ·have hlx:(xs.length:Int)≤(putK xs s:Int):=by omega
    go_wp2_with (first | (at_builtin;refine wpList_append_own_at _ rfl _ _ 25 rfl base 9 i0 (.string { data:=#[] }) 1 16 Tryz.underlying25 hi0 hz0 hz1 hz2 rfl (by decide) _ xs.length (xs.map encS) rfl (q31 HOWN.out (q02 (q13 (q03 w) _) _)) ⟨w.heap.size,0,none⟩ 1 1 [.string { data:=#[] }] rfl rfl (by exact cell_one_new _ _ _) (by simp [QL]) (by unfold maxLen;omega) (by omega) (by simp;omega) ?_;intro v' w4 hown4 hg4 _ hblk4))
    have hown4:w4.ownsRow base 9 1 v' (xs.length+1) ((xs++[[]]).map encS):=by rw [W9];exact hown4
    obtain ⟨g1,cap1,rfl,hb1,hg1,hn1,hm1,_,hH1⟩:=Qf hown4 (λh=>by rw [h] at hown4;rcases hown4.2 with ⟨_,h0⟩ | ⟨_,_,_,h0,_⟩ <;> cases h0)
    have HO4:Aside (w4.ownsRow base 9 1 (.slice (some ⟨g1,0,none⟩) (xs.length+1) cap1) (xs.length+1) ((xs++[[]]).map encS)):=hown4;have HG4:=hidden hg4;have HB4:=hidden hblk4;clear hown4 hg4 hblk4 hi0 hz0 hz1 hz2 hk hgg hlt h3 hn hlx hb1 hg1 hn1 hm1;obtain ⟨N,hN⟩:∃ N,N=xs.length+1:=⟨_,rfl⟩;have hN2:N≤201:=by omega
    rw [← hN] at HO4 ⊢;have hNa:xs.length+1≤N:=by omega
    have hNb:N≤xs.length+1:=by omega
    have HN:=hidden hN;clear hN;have hH1:Holds encS w4 g1 0 (xs++[[]]).toArray:=hH1;have HH1:=hidden hH1;clear hH1
    go_wp2
    have hu:Tryz.prog.underlying 25=some (.slice (Tryz.prog.elem 25)):=by kernel_rfl
    have hq:=run_len_slice (P:=Tryz.prog) (w:=w4) 25 3 (some ⟨g1,0,none⟩) N cap1 hu
    erw [hq]
    clear hq hu
    go_wp2
    go_loopg [8] (xs.length+1) (λgh s8 wr=>∃ (j q2:Nat) (z:List UInt8) (dk:Array (List UInt8)),s8=.int .i64 j∧putK xs s≤j∧j≤xs.length∧j-putK xs s≤gh∧wr=putRow encS (Qb w4 q2) g1 0 dk∧dk.toList=xs.take j++z::xs.drop j)
    case atStart =>
     refine ⟨xs.length,0,[],(xs++[[]]).toArray,by go_num,by omega,Q3 _,by omega,(by rw [show Qb w4 0=w4 from rfl];exact (putRow_self encS w4 g1 0 _ HH1.out).symm),by simp⟩
    case round =>
     obtain ⟨j,q2,z,dk,rfl,hj1,hj2,hjg,hwr,hdk⟩:=hrel;have hds:dk.size=xs.length+1:=by
      have:=congrArg Qo hdk
      simp at this;omega
     have hHk:Holds encS wr g1 0 dk:=by rw [hwr];exact holds_putRow encS _ g1 0 _ dk (holds_ahead encS w4 q2 g1 0 _ HH1.out) (by rw [hds];simp)
     have W2:Aside (wr=putRow encS (Qb w4 q2) g1 0 dk):=hwr;have D2:Aside (dk.toList=xs.take j++z::xs.drop j):=hdk;clear hwr hdk;by_cases hlt2:putK xs s<j
     ·obtain ⟨cm,_⟩:=hHk (j-1) (by omega)
      obtain ⟨ck,fk⟩:=hHk j (by omega)
      rw [Qg] at cm ck fk;clear hHk;have hx:dk[j-1]! = xs.getD (j-1) []:=by
       have h1:dk.toList[j-1]? = some (xs.getD (j-1) []):=by
        rw [D2.out,QD (by rw [Qm];omega),QU,if_pos (by omega),getD_some xs [] (j-1) (by omega)]
       rw [getElem!_pos dk (j-1) (by omega)]
       rw [QN,QE (by omega)] at h1
       exact Qa h1
      rw [hx] at cm;generalize hxe:xs.getD (j-1) []=x at cm;generalize dk[j]! = old at ck;have XE:=hidden hxe;clear hx hxe;have DS:=hidden hds;clear hds
      change wr.cell? ⟨g1,j-1,none⟩=some (.string (bs x)) at cm
      change wr.cell? ⟨g1,j,none⟩=some (.string (bs old)) at ck
      obtain ⟨i,rfl⟩:∃ i,j=i+1:=⟨j-1,by omega⟩
      have pk:(i:Int)<(N:Int):=by omega
      have pk1:(i:Int)+1<(N:Int):=by omega
      have pk2:(putK xs s:Int)<(i:Int)+1:=by omega
      change wr.cell? ⟨g1,i,none⟩=some (.string (bs x)) at cm
      go_wp2
      go_roundg (i-putK xs s)
      case measure=>omega
      case rel =>
       refine ⟨i,q2,xs.getD i [],dk.setIfInBounds (i+1) x,by go_num,by omega,by omega,Q3 _,?_,?_⟩
       ·have hset:=putRow_set encS (Qb w4 q2) g1 0 dk (i+1) x (by rw [DS.out];omega)
        rw [Qg] at hset;rw [W2.out];exact hset
       ·rw [Qi,D2.out,← XE.out,show i+1-1=i from rfl]
        exact qjs xs i z (by omega)
     ·obtain rfl:j=putK xs s:=by omega
      obtain ⟨ck,fk⟩:=hHk (putK xs s) (by omega)
      rw [Qg] at ck fk;clear hHk;generalize dk[putK xs s]! = old at ck;have DS:=hidden hds;clear hds
      change wr.cell? ⟨g1,putK xs s,none⟩=some (.string (bs old)) at ck
      have pk1:(putK xs s:Int)<(N:Int):=by omega
      go_wp2
      go_ret
      have hset:=putRow_set encS (Qb w4 q2) g1 0 dk (putK xs s) s (by rw [DS.out];omega)
      rw [Qg] at hset;have hys:(dk.setIfInBounds (putK xs s) s).toList=xs.take (putK xs s)++s::xs.drop (putK xs s):=by
       rw [Qi,D2.out];exact set_mid xs _ z s hKle
      rw [W2.out];exact ⟨_,rfl,put_fin HN.out HO4.out HG4.out (q5v w _ _ _) HB4.out hset (by rw [QF];exact DS.out) hys⟩
set_option maxHeartbeats 4000000 in
set_option maxRecDepth 1000000 in
theorem put_nil (w:World) (base:Nat) (s:List UInt8) (hbase:base≤w.heap.size) (hs:s.length≤1000000) :
  Calls Tryz.prog 28 #[.slice none 0 0,.string (bs s),.int .i64 200] w λe w'=>∃ v',e=.returned v'∧w'.ownsRow base 9 1 v' 1 ([s].map encS)∧w.grownBy w' none∧∀ g',v'.ownBlock=some g'→w.heap.size≤g':=by
 obtain ⟨i0,hi0,hz0,hz1,hz2⟩:=info_parts info_strR
 go_enter Tryz.func28,Tryz.ntmps28
 go_wp2
 go_loopg [7] 0 (λgh s7 wr=>∃ q:Nat,s7=.int .i64 0∧wr=w.drewN q)
 case atStart=>exact ⟨0,rfl,rfl⟩
 case round =>
  obtain ⟨q,rfl,rfl⟩:=hrel
  go_wp2_with (first | (at_builtin;refine wpList_append_own_at _ rfl _ _ 25 rfl base 9 i0 (.string { data:=#[] }) 1 16 Tryz.underlying25 hi0 hz0 hz1 hz2 rfl (by decide) _ 0 [] rfl (QC _ _ _ _) ⟨w.heap.size,0,none⟩ 1 1 [.string { data:=#[] }] rfl rfl (by exact cell_one_new _ _ _) (by simp [QL]) (by unfold maxLen;omega) (by omega) (by simp;omega) ?_;intro v' w4 hown4 hg4 _ hblk4))
  have hown4:w4.ownsRow base 9 1 v' 1 (([[]]:List (List UInt8)).map encS):=hown4;obtain ⟨g1,cap1,rfl,hb1,hg1,hn1,hm1,_,hH1⟩:=Qf hown4 (λh=>by rw [h] at hown4;rcases hown4.2 with ⟨_,h0⟩ | ⟨_,_,_,h0,_⟩ <;> cases h0)
  have HO4:Aside (w4.ownsRow base 9 1 (.slice (some ⟨g1,0,none⟩) 1 cap1) 1 (([[]]:List (List UInt8)).map encS)):=hown4;have HG4:=hidden hg4;have HB4:=hidden hblk4;obtain ⟨ck,fk⟩:=hH1 0 (by decide)
  have HH1:Aside (Holds encS w4 g1 0 #[([]:List UInt8)]):=hH1;clear hown4 hg4 hblk4 hi0 hz0 hz1 hz2 hb1 hg1 hn1 hm1 hH1
  change w4.cell? ⟨g1,0,none⟩=some (.string (bs [])) at ck
  change w4.frozen? ⟨g1,0,none⟩=false at fk
  go_wp2
  have hu:Tryz.prog.underlying 25=some (.slice (Tryz.prog.elem 25)):=by kernel_rfl
  have hq:=run_len_slice (P:=Tryz.prog) (w:=w4) 25 3 (some ⟨g1,0,none⟩) 1 cap1 hu
  erw [hq]
  clear hq hu
  go_wp2
  go_loopg [8] 0 (λgh s8 wr=>s8=.int .i64 0∧wr=w4)
  case atStart=>exact ⟨rfl,rfl⟩
  case round =>
   obtain ⟨rfl,rfl⟩:=hrel
   go_wp2
   go_ret
   have hset:=putRow_set encS (Qb wr 0) g1 0 #[([]:List UInt8)] 0 s (by decide)
   rw [show Qb wr 0=wr from rfl,putRow_self encS wr g1 0 _ HH1.out] at hset;have hb:g1=((w.drewN q).alloc (.cells #[.string { data:=#[] }] 9)).heap.size:=by
    rcases HB4.out with h | h
    ·cases h
    ·exact Qa h
   have h14:=(q5v w q (.cells #[.string { data:=#[] }] 9) none).trans HG4.out;have hsz:=(q5v w q (.cells #[.string { data:=#[] }] 9) none).size;have hp:=put_grown wr 0 g1 #[s];have hset:wr.setCell ⟨g1,0,none⟩ (.string (bs s))=putRow encS (Qb wr 0) g1 0 #[s]:=hset;rw [hset];refine ⟨_,rfl,?_,⟨hp.os.trans h14.os,hp.tape.trans h14.tape,hp.output.trans h14.output,Qq h14.size hp.size,λk hk hne=>?_⟩,λg' hg'=>?_⟩
   ·exact QS (q:=0) (k:=1) (ys:=[s]) HO4.out rfl (Q3 _)
   ·exact (hp.block k (Qc hk h14.size) (λe=>by have:=Qa e;omega)).trans (h14.block k hk hne)
   ·have:g1=g':=Qa hg'
    omega
theorem putP_len (xs:List (List UInt8)) (s:List UInt8) (h:¬ (200<xs.length∨xs[putK xs s]? = some s)):(putP xs s).length=xs.length+1:=by
 have:=putK_le xs s
 unfold putP;rw [if_neg h,Qx,QG,Qm,List.length_drop];omega
theorem put_any (w:World) (base:Nat) (v:Value) (xs:List (List UInt8)) (s:List UInt8) (hbase:base≤w.heap.size) (hown:w.ownsRow base 9 1 v xs.length (xs.map encS)) (hl:xs.length≤1000000) (hs:s.length≤1000000) :
  Calls Tryz.prog 28 #[v,.string (bs s),.int .i64 200] w λe w'=>∃ v',e=.returned v'∧w'.ownsRow base 9 1 v' (putP xs s).length ((putP xs s).map encS)∧w.grownBy w' v.ownBlock∧(v'.ownBlock=v.ownBlock∨∀ g',v'.ownBlock=some g'→w.heap.size≤g'):=by
 by_cases hv:v=.slice none 0 0
 ·subst hv
  have h0:xs.length=0:=by
   rcases hown.2 with ⟨_,h⟩ | ⟨_,_,_,h,_⟩
   ·exact h
   ·cases h
  obtain rfl:=List.eq_nil_of_length_eq_zero h0;refine (put_nil w base s hbase hs).mono ?_;rintro e w' ⟨v',rfl,h1,h2,h3⟩;exact ⟨v',rfl,h1,h2,.inr h3⟩
 ·obtain ⟨g,cap,rfl,hb,hg,hn,hm,_,hH⟩:=Qf hown hv
  by_cases hst:200<xs.length∨xs[putK xs s]? = some s
  ·refine (put_stay w g cap xs s hH hl hn hs hst).mono ?_
   rintro e w' ⟨rfl,q,rfl⟩;have e:putP xs s=xs:=by unfold putP;rw [if_pos hst]
   rw [e];have hb:=(q13 (q03 w) q:Below w.heap.size w (w.drewN q));exact ⟨_,rfl,q31 hown hb,⟨hb.os,hb.tape,hb.output,hb.size,λk hk _=>hb.block k hk⟩,.inl rfl⟩
  ·refine (put_ins w base g cap xs s hbase hown (by omega) hs (λh=>hst (.inr h))).mono ?_
   rintro e w' ⟨v',rfl,h1,h2,h3⟩;rw [putP_len xs s hst];have e:putP xs s=xs.take (putK xs s)++s::xs.drop (putK xs s):=by unfold putP;rw [if_neg hst]
   rw [e];exact ⟨v',rfl,h1,h2,h3⟩
structure Tab (w:World) (b1 G:Nat) (T:List (List (List UInt8))) (vs:List Value):Prop where
 blk:Blk w G 25 vs.toArray
 low:b1≤G
 len:vs.length=T.length
 own:∀ (i:Nat) (v:Value) (xs:List (List UInt8)),vs[i]? = some v→T[i]? = some xs→w.ownsRow b1 9 1 v xs.length (xs.map encS)
 apart:∀ (i j:Nat) v u g,vs[i]? = some v→vs[j]? = some u→v.ownBlock=some g→u.ownBlock=some g→i=j
 off:∀ (i:Nat) v,vs[i]? = some v→v.ownBlock≠some G
theorem owns_same {w w':World} {base:Nat} {e:TypeId} {size n:Nat} {v:Value} {xs:List Value} (h:w.ownsRow base e size v n xs) (hs:∀ g,v.ownBlock=some g→w'.heap[g]? = w.heap[g]?):w'.ownsRow base e size v n xs:=by
 refine ⟨h.1,?_⟩;rcases h.2 with h | ⟨g,cap,cur,rfl,h2,h3,h4⟩
 ·exact .inl h
 ·exact .inr ⟨g,cap,cur,rfl,h2,(hs g rfl).trans h3,h4⟩
theorem q3v {w:World} {base:Nat} {e:TypeId} {size n:Nat} {v:Value} {xs:List Value} (h:w.ownsRow base e size v n xs) {g:Nat} (hg:v.ownBlock=some g):g<w.heap.size:=by
 rcases h.2 with ⟨rfl,_⟩ | ⟨g',cap,cur,rfl,h2,h3,h4⟩
 ·cases hg
 ·have:g'=g:=Qa hg
  subst this;exact (Qz.1 h3).1
theorem Tab.lt {w:World} {b1 G:Nat} {T:List (List (List UInt8))} {vs:List Value} (h:Tab w b1 G T vs):G<w.heap.size:=h.blk.lt
theorem Tab.bel {w w':World} {b1 G:Nat} {T:List (List (List UInt8))} {vs:List Value} (h:Tab w b1 G T vs) (hb:Below w.heap.size w w'):Tab w' b1 G T vs where
 blk:=(hb.block G h.lt).trans h.blk
 low:=h.low
 len:=h.len
 own:=λi v xs hv hx=>q31 (h.own i v xs hv hx) hb
 apart:=h.apart
 off:=h.off
theorem Tab.get {w:World} {b1 G:Nat} {T:List (List (List UInt8))} {vs:List Value} (h:Tab w b1 G T vs) {i:Nat} {xs:List (List UInt8)} (hx:T[i]? = some xs):∃ v,vs[i]? = some v∧w.cell? ⟨G,i,none⟩=some v∧w.ownsRow b1 9 1 v xs.length (xs.map encS):=by
 have hi:=(Q8.1 hx).1;obtain ⟨v,hv⟩:∃ v,vs[i]? = some v:=⟨_,Q0 (by rw [h.len];exact hi)⟩
 exact ⟨v,hv,by rw [h.blk.cell i];simpa using hv,h.own i v xs hv hx⟩
theorem Tab.put {w w':World} {b1 G:Nat} {T:List (List (List UInt8))} {vs:List Value} (h:Tab w b1 G T vs) {i:Nat} {v v':Value} {ys:List (List UInt8)} (hv:vs[i]? = some v) (ho:w'.ownsRow b1 9 1 v' ys.length (ys.map encS)) (hg:w.grownBy w' v.ownBlock)
  (hb:v'.ownBlock=v.ownBlock∨∀ g',v'.ownBlock=some g'→w.heap.size≤g'):Tab (w'.setCell ⟨G,i,none⟩ v') b1 G (T.set i ys) (vs.set i v'):=by
 have hi:=(Q8.1 hv).1;have hGv:v.ownBlock≠some G:=h.off i v hv;have hblk:Blk w' G 25 vs.toArray:=(hg.block G h.lt (λe=>hGv e.symm)).trans h.blk
 have hoff:v'.ownBlock≠some G:=λe=>by
  rcases hb with hb | hb
  ·exact hGv (hb▸e)
  ·exact absurd h.lt (Nat.not_lt.2 (hb G e))
 have hother:∀ g,g≠G→(w'.setCell ⟨G,i,none⟩ v').heap[g]? = w'.heap[g]? := λg hne=>Below.heap_setCell w' ⟨G,i,none⟩ v' g hne
 refine ⟨?_,h.low,by rw [Qe,Qe];exact h.len,?_,?_,?_⟩
 ·have:=hblk.set_ i v'
  simpa using this
 ·intro j u xs hu hx
  by_cases hj:i=j
  ·subst hj
   rw [Qh hi] at hu;rw [Qh (by rw [← h.len];exact hi)] at hx
   injection hu with hu;injection hx with hx;subst hu;subst hx;exact owns_same ho λg hg=>hother g (λe=>hoff (e▸hg))
  ·rw [Qj hj] at hu hx
   have h1:=h.own j u xs hu hx;refine owns_same h1 λg hgg=>?_
   have hlt:=q3v h1 hgg;rw [hother g (λe=>h.off j u hu (e▸hgg))]
   exact hg.block g hlt (λe=>hj (h.apart i j v u g hv hu e.symm hgg))
 ·intro j k a c g ha hc hag hcg
  have key:∀ j u,i≠j→(vs.set i v')[j]? = some u→∀ g,u.ownBlock=some g→v'.ownBlock≠some g:=λj u hj hu g hgg e=>by
   rw [Qj hj] at hu;have hjT:j<T.length:=by rw [← h.len];exact (Q8.1 hu).1
   have h1:=h.own j u _ hu (Q0 hjT);rcases hb with hb | hb
   ·exact hj (h.apart i j v u g hv hu (hb▸e) hgg)
   ·exact absurd (q3v h1 hgg) (Nat.not_lt.2 (hb g e))
  by_cases hj:i=j
  ·by_cases hk:i=k
   ·exact hj.symm.trans hk
   ·subst hj
    rw [Qh hi] at ha;injection ha with ha;subst ha;exact absurd hag (key k c hk hc g hcg)
  ·by_cases hk:i=k
   ·subst hk
    rw [Qh hi] at hc;injection hc with hc;subst hc;exact absurd hcg (key j a hj ha g hag)
   ·rw [Qj hj] at ha
    rw [Qj hk] at hc;exact h.apart j k a c g ha hc hag hcg
 ·intro j u hu
  by_cases hj:i=j
  ·subst hj
   rw [Qh hi] at hu;injection hu with hu;subst hu;exact hoff
  ·rw [Qj hj] at hu
   exact h.off j u hu
end Go.Proofs.YtlmbfijhkcmncaaGreatDoor
namespace Go.Proofs.YtlmbfijhkcmncaaGreatDoor
open Go.RowKit
theorem put_plain (xs:List (List UInt8)) (s:List UInt8):(if xs[putK xs s]? = some s then xs else xs.take (putK xs s)++s::xs.drop (putK xs s))=Rul.put s xs:=by
 induction xs with
 | nil=>rfl
 | cons a l ih =>
  unfold Rul.put;cases ha:QH a s
  ·have hK:putK (a::l) s=0:=by unfold putK;rw [QP,ha];rfl
   rw [hK];by_cases he:s=a
   ·subst he
    rw [if_pos (show (s::l)[0]? = some s from rfl),if_neg (by rw [ha];decide),if_pos rfl]
   ·have hb:QH s a=true:=Rul.qin (λh=>by rw [show QH a s=true from h] at ha;cases ha) (λe=>he e.symm)
    rw [if_neg (show ¬ (a::l)[0]? = some s from λh=>he (Qa h).symm),if_pos hb]
    rfl
  ·have hK:putK (a::l) s=putK l s+1:=by unfold putK;rw [QP,ha];rfl
   have hb:¬ QH s a=true:=λh=>Rul.q71 a (Rul.qcu ha h)
   have he:¬ s=a:=λe=>Rul.q71 a (by rw [e] at ha;exact ha)
   rw [hK,if_neg hb,if_neg he,← ih];show (if l[putK l s]? = some s then a::l else a::(l.take (putK l s)++s::l.drop (putK l s)))=_
   split <;> rfl
theorem putP_eq (xs:List (List UInt8)) (s:List UInt8):putP xs s=if 200<xs.length then xs else Rul.put s xs:=by
 rw [← put_plain];unfold putP;by_cases h:200<xs.length
 ·rw [if_pos h,if_pos (.inl h)]
 ·rw [if_neg h]
  by_cases h2:xs[putK xs s]? = some s
  ·rw [if_pos h2,if_pos (.inr h2)]
  ·rw [if_neg h2,if_neg (λe=>e.elim h h2)]
def Like (t s:List (List UInt8)):Prop:=(t.length≤200∧s=t)∨(200<t.length∧200<s.length)
theorem put_len (s:List UInt8):∀ (l:List (List UInt8)),l.length≤(Rul.put s l).length∧(Rul.put s l).length≤l.length+1
 | []=>⟨Qn _,Q3 _⟩
 | a::l=>by
  unfold Rul.put;have:=put_len s l;split
  ·exact ⟨by simp,by simp⟩
  ·split
   ·exact ⟨Q3 _,Nat.le_succ _⟩
   ·rw [QG,QG];omega
theorem Like.put {t s:List (List UInt8)} (h:Like t s) (x:List UInt8):Like (Rul.put x t) (putP s x):=by
 rw [putP_eq];have hl:=put_len x t;rcases h with ⟨h1,rfl⟩ | ⟨h1,h2⟩
 ·rw [if_neg (by omega)]
  by_cases h:(Rul.put x s).length≤200
  ·exact .inl ⟨h,rfl⟩
  ·exact .inr ⟨by omega,by omega⟩
 ·rw [if_pos h2]
  exact .inr ⟨by omega,h2⟩
abbrev TabG:Type:=List (List (List UInt8))
abbrev gAt (T:TabG) (n:Nat):List (List UInt8):=T.getD n []
def putG (T:TabG) (a:Nat) (x:List UInt8):TabG:=T.set a (putP (gAt T a) x)
def addG (T:TabG) (k a:Nat) (to_:List UInt8):TabG:=((gAt T k).map (·++to_)).foldl (λT x=>putG T a x) T
def q7a (w:List Int) (k:Nat) (T:TabG) (x:Rul.q0g):TabG:=if Rul.q0x x (w.drop k) then addG T k (k+x.2.1.length) x.1.2.1 else T
def q7h (rs:List Rul.q0g) (w:List Int) (k:Nat) (T:TabG):TabG:=if k<w.length then rs.foldl (q7a w k) T else T
def q6n (rs:List Rul.q0g) (w:List Int):Nat→Nat→TabG→List (List UInt8)×Int
 | 0,_,_=>([],0)
 | f+1,k,T=>if k≤w.length then (if 200<(gAt T k).length then ([],2) else q6n rs w f (k+1) (q7h rs w k T)) else (gAt T w.length,0)
def q6r (n:Nat):TabG:=(Ql (n+4) []).set 0 [[]]
theorem q9u (T:TabG) (a n:Nat) (l:List (List UInt8)) (ha:a<T.length):gAt (T.set a l) n=if n=a then l else gAt T n:=by
 show (T.set a l).getD n []=_;rw [Q7,Qr];by_cases h:a=n
 ·subst h;rw [if_pos rfl,if_pos ha,if_pos rfl];rfl
 ·rw [if_neg h,if_neg (λe=>h e.symm),← Q7]
theorem fold_len (a:Nat):∀ (l:List (List UInt8)) (T:TabG),(l.foldl (λT x=>putG T a x) T).length=T.length
 | [],_=>rfl
 | x::l,T=>by rw [Qp,fold_len a l];exact Qe
theorem fold_at (a n:Nat):∀ (l:List (List UInt8)) (T:TabG),a<T.length→gAt (l.foldl (λT x=>putG T a x) T) n=if n=a then l.foldl putP (gAt T a) else gAt T n
 | [],T,h=>by
  by_cases e:n=a
  ·subst e;rw [if_pos rfl];rfl
  ·rw [if_neg e];rfl
 | x::l,T,h=>by
  have hl:a<(putG T a x).length:=by show a<(T.set a _).length;rw [Qe];exact h
  rw [Qp,fold_at a n l _ hl,Qp];have h1:gAt (putG T a x) a=putP (gAt T a) x:=by show gAt (T.set a _) a=_;rw [q9u T a a _ h,if_pos rfl]
  by_cases e:n=a
  ·rw [if_pos e,if_pos e,h1]
  ·rw [if_neg e,if_neg e]
   show gAt (T.set a _) n=_;rw [q9u T a n _ h,if_neg e]
theorem like_fold:∀ (l t s:List (List UInt8)),Like t s→Like (l.foldl (λacc x=>Rul.put x acc) t) (l.foldl putP s)
 | [],_,_,h=>h
 | x::l,t,s,h=>like_fold l _ _ (h.put x)
def LikeT (Tt:Rul.Tab) (T:TabG) (m:Nat):Prop:=T.length=m∧∀ n,n<m→Like (Rul.setOf (Tt n)) (gAt T n)
theorem rule_like {Tt:Rul.Tab} {T:TabG} {m k:Nat} (h:LikeT Tt T m) (w:List Int) (x:Rul.q0g) (hk:k<m) (hs:gAt T k=Rul.setOf (Tt k)) (hx:k+x.2.1.length<m) (hp:1≤x.2.1.length) :
  LikeT (Rul.q3y w k Tt x) (q7a w k T x) m∧gAt (q7a w k T x) k=gAt T k∧Rul.q3y w k Tt x k=Tt k:=by
 unfold Rul.q3y q7a;by_cases hst:Rul.q0x x (w.drop k)=true
 ·rw [if_pos hst,if_pos hst]
  have hat:k+x.2.1.length<T.length:=by rw [h.1];exact hx
  refine ⟨⟨by unfold addG;rw [fold_len];exact h.1,λn hn=>?_⟩,?_,?_⟩
  ·unfold addG
   rw [fold_at _ n _ T hat];unfold Rul.putT;by_cases e:n=k+x.2.1.length
   ·rw [if_pos e,if_pos e,hs]
    subst e;have hl:=like_fold ((Rul.setOf (Tt k)).map (·++x.1.2.1)) _ _ (h.2 _ hn);have he:((Rul.setOf (Tt k)).map (·++x.1.2.1)).foldl (λacc x=>Rul.put x acc) (Rul.setOf (Tt (k+x.2.1.length)))=Rul.setOf (Tt (k+x.2.1.length)++(Tt k).map (·++x.1.2.1)):=by
     have h1:=Rul.qch ((Rul.setOf (Tt k)).map (·++x.1.2.1)) _ (Rul.setOf_up (Tt (k+x.2.1.length)));refine (Rul.setOf_eq h1.1 λs=>?_).symm
     rw [h1.2,Rul.qgv,Wd,Qt,Qt];simp only [Rul.qgv]
    rw [he] at hl;exact hl
   ·rw [if_neg e,if_neg e]
    exact h.2 n hn
  ·unfold addG
   rw [fold_at _ k _ T hat,if_neg (by omega)]
  ·unfold Rul.putT
   rw [if_neg (by omega)]
 ·rw [if_neg hst,if_neg hst]
  exact ⟨h,rfl,rfl⟩
theorem qk1 (w:List Int) {m k:Nat} (hk:k<m):∀ (rs:List Rul.q0g) (Tt:Rul.Tab) (T:TabG),LikeT Tt T m→gAt T k=Rul.setOf (Tt k)→(∀ x∈rs,k+x.2.1.length<m∧1≤x.2.1.length)→LikeT (rs.foldl (Rul.q3y w k) Tt) (rs.foldl (q7a w k) T) m
 | [],_,_,h,_,_=>h
 | x::rs,Tt,T,h,hs,hx=>by
  have hx1:=hx x (Qy ..);obtain ⟨h1,h2,h3⟩:=rule_like h w x hk hs hx1.1 hx1.2;rw [Qp,Qp];exact qk1 w hk rs _ _ h1 (by rw [h2,h3,hs]) λy hy=>hx y (Qu _ hy)
theorem loop_like {rs:List Rul.q0g} {w:List Int} {m:Nat} (hm:w.length+4≤m) (hp:∀ x∈rs,1≤x.2.1.length∧x.2.1.length≤3):∀ (f k:Nat) (T:TabG),w.length+1<f+k→k≤w.length+1→LikeT (Rul.tabs rs w (min k w.length)) T m →
  (∀ j,j<k→Rul.q4e rs w j=false)→q6n rs w f k T=Rul.q40 rs w
 | 0,k,T,hf,hk,_,_=>by omega
 | f+1,k,T,hf,hk,hT,hn=>by
  unfold q6n;by_cases hkw:k≤w.length
  ·rw [if_pos hkw]
   have hmin:min k w.length=k:=We hkw;rw [hmin] at hT;have hL:=hT.2 k (by omega)
   by_cases hbig:200<(gAt T k).length
   ·rw [if_pos hbig]
    have:Rul.q4e rs w k=true:=by
     unfold Rul.q4e;rcases hL with ⟨h1,h2⟩ | ⟨h1,_⟩
     ·rw [h2] at hbig;omega
     ·exact decide_eq_true h1
    unfold Rul.q40;rw [if_pos (QY.2 ⟨k,Wi.2 (by omega),this⟩)]
   ·rw [if_neg hbig]
    have hs:gAt T k=Rul.setOf (Rul.tabs rs w k k):=by
     rcases hL with ⟨_,h2⟩ | ⟨_,h2⟩
     ·exact h2
     ·exact absurd h2 hbig
    have hnot:Rul.q4e rs w k=false:=by
     unfold Rul.q4e;rcases hL with ⟨h1,_⟩ | ⟨_,h2⟩
     ·exact decide_eq_false (by omega)
     ·exact absurd h2 hbig
    refine loop_like hm hp f (k+1) _ (by omega) (by omega) ?_ λj hj=>?_
    ·unfold q7h
     by_cases hlt:k<w.length
     ·rw [if_pos hlt,We (by omega),Rul.tabs_succ]
      unfold Rul.stepK;exact qk1 w (by omega) rs _ _ hT hs λx hx=>⟨by have:=(hp x hx).2;omega,(hp x hx).1⟩
     ·rw [if_neg hlt,QZ (by omega)]
      rw [show k=w.length by omega] at hT
      exact hT
    ·by_cases e:j=k
     ·rw [e];exact hnot
     ·exact hn j (by omega)
  ·rw [if_neg hkw]
   have hmin:min k w.length=w.length:=QZ (by omega)
   rw [hmin] at hT;have hL:=hT.2 w.length (by omega)
   have hno:=hn w.length (by omega)
   unfold Rul.q40;rw [if_neg (λh=>by
    obtain ⟨j,hj,hb⟩:=QY.1 h;rw [hn j (by have:=Wi.1 hj;omega)] at hb
    cases hb)]
   unfold Rul.q4e at hno;have hno:=of_decide_eq_false hno;rcases hL with ⟨_,h2⟩ | ⟨h1,_⟩
   ·rw [h2]
   ·exact absurd h1 hno
theorem qlk {rs:List Rul.q0g} {w:List Int} (hp:∀ x∈rs,1≤x.2.1.length∧x.2.1.length≤3):q6n rs w (w.length+2) 0 (q6r w.length)=Rul.q40 rs w:=by
 refine loop_like (m:=w.length+4) (Q3 _) hp _ _ _ (by omega) (by omega) ⟨?_,λn hn=>?_⟩ λj hj=>absurd hj (Nat.not_lt_zero _)
 ·unfold q6r;rw [Qe,Q9]
 ·rw [Nat.zero_min]
  unfold q6r;rw [q9u _ 0 n _ (by rw [Q9];omega)]
  show Like (Rul.setOf (Rul.tab0 n)) _;unfold Rul.tab0;by_cases h:n=0
  ·rw [if_pos h,if_pos h]
   exact .inl ⟨by decide,rfl⟩
  ·rw [if_neg h,if_neg h]
   refine .inl ⟨by decide,?_⟩
   show (Ql (w.length+4) []).getD n []=_;rw [Q7,Qd,if_pos hn];rfl
open R
theorem read_le {L:List (List UInt8)} {s:List UInt8} {m:Int} (hm:0≤m) (h:(Rul.q07 L s m).2=true):((Rul.q07 L s m).1.length:Int)≤m:=by
 unfold Rul.q07 at h ⊢;split
 ·exact hm
 ·rename_i hs
  rw [if_neg hs] at h;rw [Qs] at h;exact of_decide_eq_true h.2
theorem pos3_of {r:Rul.q11} {f t:Al.Alph} (h:Rul.q09 r f t=true):∀ x∈r.2.2.map (Rul.q1b f.letters),1≤x.2.1.length∧x.2.1.length≤3:=λx hx=>by
 refine ⟨(Rul.pos_of h).1 x hx,?_⟩;obtain ⟨y,hy,rfl⟩:=Qt.1 hx;unfold Rul.q09 at h;simp only [Qs] at h;have ho:=List.all_eq_true.1 h.2.2.2.2.2 y hy;unfold Rul.okIn at ho;rw [Qs] at ho;have:=read_le (by decide) ho.1
 show (Rul.q07 f.letters y.1 3).1.length≤3;omega
def writG (r:Rul.q11) (f t:Al.Alph) (s:List UInt8):List (List UInt8)×Int :=
 if Rul.q09 r f t&&(Al.q0m f.letters s).2.1==0 then q6n (r.2.2.map (Rul.q1b f.letters)) (Al.q0m f.letters s).1 ((Al.q0m f.letters s).1.length+2) 0 (q6r (Al.q0m f.letters s).1.length) else ([],1)
theorem writG_eq (r:Rul.q11) (f t:Al.Alph) (s:List UInt8):writG r f t s=Rul.q21 r f t s:=by
 unfold writG Rul.q21;cases hv:Rul.q09 r f t
 ·rfl
 ·rw [Bool.true_and]
  split
  ·exact qlk (pos3_of hv)
  ·rfl
def gWrit:Con:=.of 7 [q0t,ckAl,ckAl,q3a] [ckStrs,q3l] (λp=>FewR p.1∧FewP p.2.1∧FewP p.2.2.1∧Qo p.2.2.2≤1000000) (λp=>Rul.q21 p.1 (alOf p.2.1) (alOf p.2.2.1) p.2.2.2)
open Go.Lib
def Dat (b:Nat) (w:World) (c:CK) (p:c.Pay) (v:Value):Prop:=(c.comp p).Rep (Cx.of λg=>g<b) w v
theorem keeps_below {b:Nat} {w w':World} (hb:Below b w w'):Keeps w w' (λg=>g<b):=⟨hb.size,λg o hg _=>World.cell?_of_block (hb.block g hg)⟩
theorem Dat.keep {b:Nat} {w w':World} {c:CK} {p:c.Pay} {v:Value} (h:Dat b w c p v) (hb:Below b w w'):Dat b w' c p v :=
 Comp.Rep.mono (λ_ _ h=>h.keeps rfl rfl rfl (keeps_below hb) (λg hg _=>hg)) h
theorem Dat.wide {b b':Nat} {w:World} {c:CK} {p:c.Pay} {v:Value} (h:Dat b w c p v) (hb:b≤b'):Dat b' w c p v :=
 Comp.Rep.mono (κ:=Cx.of λg=>g<b) (λ_ _ h=>Cell.Rep.keeps (κ:=Cx.of λg=>g<b) (κ':=Cx.of λg=>g<b') rfl rfl rfl (Keeps.refl w _) (λg hg _=>Qc hg hb) h) h
theorem qik {κ:Cx} {w:World} {a b c:Comp} {u v x:Value} (h1:a.Rep κ w u) (h2:b.Rep κ w v) (h3:c.Rep κ w x):q0f κ w [a,b,c] [u,v,x]:=by
 refine ⟨rfl,λi y hy=>?_⟩
 match i,hy with
 | 0,hy=>injection hy with hy;subst hy;exact ⟨_,rfl,h1⟩
 | 1,hy=>injection hy with hy;subst hy;exact ⟨_,rfl,h2⟩
 | 2,hy=>injection hy with hy;subst hy;exact ⟨_,rfl,h3⟩
theorem comps_two {κ:Cx} {w:World} {a b:Comp} {u v:Value} (h1:a.Rep κ w u) (h2:b.Rep κ w v):q0f κ w [a,b] [u,v]:=by
 refine ⟨rfl,λi y hy=>?_⟩
 match i,hy with
 | 0,hy=>injection hy with hy;subst hy;exact ⟨_,rfl,h1⟩
 | 1,hy=>injection hy with hy;subst hy;exact ⟨_,rfl,h2⟩
theorem comps_four {κ:Cx} {w:World} {a b c d:Comp} {u v x y:Value} (h1:a.Rep κ w u) (h2:b.Rep κ w v) (h3:c.Rep κ w x) (h4:d.Rep κ w y):q0f κ w [a,b,c,d] [u,v,x,y]:=by
 refine ⟨rfl,λi z hz=>?_⟩
 match i,hz with
 | 0,hz=>injection hz with hz;subst hz;exact ⟨_,rfl,h1⟩
 | 1,hz=>injection hz with hz;subst hz;exact ⟨_,rfl,h2⟩
 | 2,hz=>injection hz with hz;subst hz;exact ⟨_,rfl,h3⟩
 | 3,hz=>injection hz with hz;subst hz;exact ⟨_,rfl,h4⟩
section
variable {b:Nat} {w:World} (hb:b≤w.heap.size)
include hb
theorem qex {r:Rul.q11} {f t:AlP} {vr vf vt:Value} (hr:Dat b w q0t r vr) (hf:Dat b w ckAl f vf) (ht:Dat b w ckAl t vt) (hp:FewR r∧FewP f∧FewP t) :
  Calls Tryz.prog 13 #[vr,vf,vt] w λe w'=>e=.returned (.bool (Rul.q09 r (alOf f) (alOf t)))∧Below w.heap.size w w':=by
 refine (qg6.2 (r,f,t) [vr,vf,vt] w (λg=>g<b) (λg hg=>Qc hg hb) hp (qik hr hf ht)).mono ?_
 rintro e w' ⟨r',v,rfl,hpost,hv,hbl⟩;have hpost:r'=Rul.q09 r (alOf f) (alOf t):=hpost;subst hpost;have hv:v=.bool _:=hv;rw [hv];exact ⟨rfl,hbl⟩
theorem stands_call {x:Rul.Rule} {f:AlP} {l:List Int} {k:Int} {vx vf vl:Value} (hx:Dat b w ckRule x vx) (hf:Dat b w ckAl f vf) (hl:Dat b w q55 l vl) (hp:FewT x∧q3g f∧Qo l≤1000000∧0≤k∧k≤Qo l) :
  Calls Tryz.prog 26 #[vx,vf,vl,.int .i64 k] w λe w'=>e=.returned (.bool (Rul.q0x (Rul.q1b f.2.1 x) (List.drop k.toNat l)))∧Below w.heap.size w w':=by
 refine (qli.2 (x,f,l,k) [vx,vf,vl,.int .i64 k] w (λg=>g<b) (λg hg=>Qc hg hb) hp (comps_four hx hf hl rfl)).mono ?_
 rintro e w' ⟨r',v,rfl,hpost,hv,hbl⟩;have hpost:r'=Rul.q0x (Rul.q1b f.2.1 x) (List.drop k.toNat l):=hpost;subst hpost;have hv:v=.bool _:=hv;rw [hv];exact ⟨rfl,hbl⟩
theorem qg2 {f:AlP} {s:List UInt8} {vf:Value} (hf:Dat b w ckAl f vf) (hp:q3g f∧Qo s≤1000000) :
  Calls Tryz.prog 25 #[vf,.string (bs s)] w λe w'=>∃ A c,e=.returned (.tuple #[.slice A (Al.q0m f.2.1 s).1.length c,.int .i64 (Al.q0m f.2.1 s).2.1,.int .i64 (Al.q0m f.2.1 s).2.2])∧Dat w'.heap.size w' q55 (Al.q0m f.2.1 s).1 (.slice A (Al.q0m f.2.1 s).1.length c)∧Below w.heap.size w w':=by
 refine (qe0.2 (f,s) [vf,.string (bs s)] w (λg=>g<b) (λg hg=>Qc hg hb) hp (comps_two hf rfl)).mono ?_
 rintro e w' ⟨r',v,rfl,hpost,hv,hbl⟩;have hpost:r'=Al.q0m f.2.1 s:=hpost;subst hpost;obtain ⟨us,rfl,hl,hu⟩:=hv;obtain ⟨u0,e0,r0⟩:=hu 0 _ rfl;obtain ⟨u1,e1,r1⟩:=hu 1 _ rfl;obtain ⟨u2,e2,r2⟩:=hu 2 _ rfl;obtain rfl:u1=.int .i64 _:=r1;obtain rfl:u2=.int .i64 _:=r2;have r0':=r0;obtain ⟨A,c,rfl,hc,hrow⟩:=r0;obtain ⟨us⟩:=us;have hl:us.length=3:=hl
 match us,hl,e0,e1,e2 with
 | [x,y,z],_,e0,e1,e2 =>
  injection e0 with e0;injection e1 with e1;injection e2 with e2;have e0:x=_:=e0;have e1:y=_:=e1;have e2:z=_:=e2;subst e0;subst e1;subst e2;refine ⟨A,c,rfl,?_,hbl⟩;exact Cell.Rep.keeps (κ:=Cx.of λg=>g<b∨(w.heap.size≤g∧g<w'.heap.size)) (κ':=Cx.of λg=>g<w'.heap.size) rfl rfl rfl (Keeps.refl w' _) (λg hg hlt=>hlt) (c:=.val (.sl (.one (.int .i64))) (Al.q0m f.2.1 s).1) r0'
theorem read_call {f:AlP} {s:List UInt8} {m:Int} {vf:Value} (hf:Dat b w ckAl f vf) (hp:q3g f∧Qo s≤1000000) :
  Calls Tryz.prog 27 #[vf,.string (bs s),.int .i64 m] w λe w'=>∃ A c,e=.returned (.tuple #[.slice A (Rul.q07 f.2.1 s m).1.length c,.bool (Rul.q07 f.2.1 s m).2])∧Below w.heap.size w w':=by
 refine (q9j.2 (f,s,m) [vf,.string (bs s),.int .i64 m] w (λg=>g<b) (λg hg=>Qc hg hb) hp (qik hf rfl rfl)).mono ?_
 rintro e w' ⟨r',v,rfl,hpost,hv,hbl⟩;have hpost:r'=Rul.q07 f.2.1 s m:=hpost;subst hpost;obtain ⟨us,rfl,hl,hu⟩:=hv;obtain ⟨u0,e0,r0⟩:=hu 0 _ rfl;obtain ⟨u1,e1,r1⟩:=hu 1 _ rfl;obtain rfl:u1=.bool _:=r1;obtain ⟨A,c,rfl,hc,hrow⟩:=r0;obtain ⟨us⟩:=us;have hl:us.length=2:=hl
 match us,hl,e0,e1 with
 | [x,y],_,e0,e1 =>
  injection e0 with e0;injection e1 with e1;have e0:x=_:=e0;have e1:y=_:=e1;subst e0;subst e1;exact ⟨A,c,rfl,hbl⟩
end
theorem q0i {p:Prop} (h:p):Aside p:=h
theorem form_of {r:Rul.q11} {f t:AlP} (h:Rul.q09 r (alOf f) (alOf t)=true) (hf:FewP f):q3g f:=by
 unfold Rul.q09 at h;simp only [Qs] at h;exact ⟨hf,Al.qg4 h.2.1⟩
theorem box_two {w0 w1:World} {b:TypeId} {p q r:Value} {o1 o3:Obj} (hb:Below ((((w0.alloc o1).alloc (.cells #[p,q,r] b)).alloc o3)).heap.size (((w0.alloc o1).alloc (.cells #[p,q,r] b)).alloc o3) w1) :
  w1.cell? ⟨w0.heap.size+1,0,none⟩=some p∧w1.cell? ⟨w0.heap.size+1,1,none⟩=some q∧w1.cell? ⟨w0.heap.size+1,2,none⟩=some r:=by
 have h:Blk ((w0.alloc o1).alloc (.cells #[p,q,r] b)) (w0.heap.size+1) b #[p,q,r]:=by
  have:=Blk.new (w0.alloc o1) b #[p,q,r]
  simpa using this
 have h:=(h.alloc o3).bel hb;exact ⟨h.cell 0,h.cell 1,h.cell 2⟩
set_option maxHeartbeats 4000000 in
set_option maxRecDepth 1000000 in
theorem writ_bad (w0:World) (r1 r2:List UInt8) (l:List Rul.Rule) (f1:List UInt8) (f2:List (List UInt8)) (f3:List Int) (t1:List UInt8) (t2:List (List UInt8)) (t3:List Int) (s:List UInt8) (A:Option Addr) (c:Nat) (F G:Option Addr) (cf cg:Nat) (T U:Option Addr) (ct cu:Nat)
  (hr:Dat w0.heap.size w0 q0t (r1,r2,l) (.agg #[.string (bs r1),.string (bs r2),.slice A l.length c])) (hf:Dat w0.heap.size w0 ckAl (f1,f2,f3) (.agg #[.string (bs f1),.slice F f2.length cf,.slice G f3.length cg])) (ht:Dat w0.heap.size w0 ckAl (t1,t2,t3) (.agg #[.string (bs t1),.slice T t2.length ct,.slice U t3.length cu]))
  (hp:FewR (r1,r2,l)∧FewP (f1,f2,f3)∧FewP (t1,t2,t3)∧s.length≤1000000) (hv:Rul.q09 (r1,r2,l) (alOf (f1,f2,f3)) (alOf (t1,t2,t3))=false) :
  Calls Tryz.prog 7 #[.agg #[.string (bs r1),.string (bs r2),.slice A l.length c],.agg #[.string (bs f1),.slice F f2.length cf,.slice G f3.length cg],.agg #[.string (bs t1),.slice T t2.length ct,.slice U t3.length cu],.string (bs s)] w0 λe w' =>
   e=.returned (.tuple #[.slice none 0 0,.int .i64 1])∧Below w0.heap.size w0 w':=by
 have HR:Aside (Dat w0.heap.size w0 q0t (r1,r2,l) (.agg #[.string (bs r1),.string (bs r2),.slice A l.length c])):=hr;have HF:Aside (Dat w0.heap.size w0 ckAl (f1,f2,f3) (.agg #[.string (bs f1),.slice F f2.length cf,.slice G f3.length cg])):=hf;have HT:Aside (Dat w0.heap.size w0 ckAl (t1,t2,t3) (.agg #[.string (bs t1),.slice T t2.length ct,.slice U t3.length cu])):=ht;have HP:Aside (FewR (r1,r2,l)∧FewP (f1,f2,f3)∧FewP (t1,t2,t3)∧s.length≤1000000):=hp;clear hr hf ht hp
 go_enter Tryz.func7,Tryz.ntmps7
 go_wp2_with fail
 have hb3:=(q02 (q02 (q02 (q03 w0) (.cells #[.string (bs r1),.string (bs r2),.slice A l.length c] 24)) (.cells #[.string (bs f1),.slice F f2.length cf,.slice G f3.length cg] 28)) (.cells #[.string (bs t1),.slice T t2.length ct,.slice U t3.length cu] 28));refine (qex hb3.size (HR.out.keep hb3) (HF.out.keep hb3) (HT.out.keep hb3) ⟨HP.out.1,HP.out.2.1,HP.out.2.2.1⟩).mono ?_;rintro e w1 ⟨rfl,hb1⟩;rw [hv];have HB:=q0i (hb3.trans (hb1.mono hb3.size));clear hb3 hb1
 go_wp2
 go_ret2
 exact ⟨rfl,HB.out⟩
set_option maxHeartbeats 4000000 in
set_option maxRecDepth 1000000 in
theorem writ_none (w0:World) (r1 r2:List UInt8) (l:List Rul.Rule) (f1:List UInt8) (f2:List (List UInt8)) (f3:List Int) (t1:List UInt8) (t2:List (List UInt8)) (t3:List Int) (s:List UInt8) (A:Option Addr) (c:Nat) (F G:Option Addr) (cf cg:Nat) (T U:Option Addr) (ct cu:Nat)
  (hr:Dat w0.heap.size w0 q0t (r1,r2,l) (.agg #[.string (bs r1),.string (bs r2),.slice A l.length c])) (hf:Dat w0.heap.size w0 ckAl (f1,f2,f3) (.agg #[.string (bs f1),.slice F f2.length cf,.slice G f3.length cg])) (ht:Dat w0.heap.size w0 ckAl (t1,t2,t3) (.agg #[.string (bs t1),.slice T t2.length ct,.slice U t3.length cu]))
  (hp:FewR (r1,r2,l)∧FewP (f1,f2,f3)∧FewP (t1,t2,t3)∧s.length≤1000000) (hv:Rul.q09 (r1,r2,l) (alOf (f1,f2,f3)) (alOf (t1,t2,t3))=true) (he:((Al.q0m f2 s).2.1==0)=false) :
  Calls Tryz.prog 7 #[.agg #[.string (bs r1),.string (bs r2),.slice A l.length c],.agg #[.string (bs f1),.slice F f2.length cf,.slice G f3.length cg],.agg #[.string (bs t1),.slice T t2.length ct,.slice U t3.length cu],.string (bs s)] w0 λe w' =>
   e=.returned (.tuple #[.slice none 0 0,.int .i64 1])∧Below w0.heap.size w0 w':=by
 have HR:Aside (Dat w0.heap.size w0 q0t (r1,r2,l) (.agg #[.string (bs r1),.string (bs r2),.slice A l.length c])):=hr;have HF:Aside (Dat w0.heap.size w0 ckAl (f1,f2,f3) (.agg #[.string (bs f1),.slice F f2.length cf,.slice G f3.length cg])):=hf;have HT:Aside (Dat w0.heap.size w0 ckAl (t1,t2,t3) (.agg #[.string (bs t1),.slice T t2.length ct,.slice U t3.length cu])):=ht;have HP:Aside (FewR (r1,r2,l)∧FewP (f1,f2,f3)∧FewP (t1,t2,t3)∧s.length≤1000000):=hp;clear hr hf ht hp
 go_enter Tryz.func7,Tryz.ntmps7
 go_wp2_with fail
 have hb3:=(q02 (q02 (q02 (q03 w0) (.cells #[.string (bs r1),.string (bs r2),.slice A l.length c] 24)) (.cells #[.string (bs f1),.slice F f2.length cf,.slice G f3.length cg] 28)) (.cells #[.string (bs t1),.slice T t2.length ct,.slice U t3.length cu] 28));refine (qex hb3.size (HR.out.keep hb3) (HF.out.keep hb3) (HT.out.keep hb3) ⟨HP.out.1,HP.out.2.1,HP.out.2.2.1⟩).mono ?_;rintro e w1 ⟨rfl,hb1⟩;rw [hv];have HB:=q0i (hb3.trans (hb1.mono hb3.size));have hfm:=form_of hv HP.out.2.1;have HF1:=q0i ((HF.out.keep hb3).keep (hb1.mono hb3.size));have hle1:w0.heap.size≤w1.heap.size:=Qq hb3.size hb1.size;obtain ⟨k0,k1,k2⟩:=box_two (hb:=hb1);clear hb3 hb1
 go_wp2_with fail
 refine (qg2 hle1 HF1.out ⟨hfm,HP.out.2.2.2⟩).mono ?_;rintro e w2 ⟨A2,c2,rfl,hd2,hb2⟩;have hne:(Al.q0m f2 s).2.1≠0:=beq_eq_false_iff_ne.1 he;generalize (Al.q0m f2 s).1=L at *
 generalize (Al.q0m f2 s).2.1=er at *
 generalize (Al.q0m f2 s).2.2=ea at *
 have HB2:=q0i (HB.out.trans (hb2.mono hle1));clear hb2 hd2 hfm HF1 k0 k1 k2 HB he
 go_wp2
 go_ret2
 exact ⟨rfl,HB2.out⟩
end Go.Proofs.YtlmbfijhkcmncaaGreatDoor
namespace Go.Proofs.YtlmbfijhkcmncaaGreatDoor
open Go.RowKit
structure OkT (m:Nat) (T:TabG):Prop where
 len:T.length=m
 few:∀ a,(gAt T a).length≤201
 small:∀ a,∀ x∈gAt T a,x.length≤a*1000
theorem putP_few (xs:List (List UInt8)) (s:List UInt8) (h:xs.length≤201):(putP xs s).length≤201:=by
 by_cases h':200<xs.length∨xs[putK xs s]? = some s
 ·unfold putP;rw [if_pos h'];exact h
 ·rw [putP_len xs s h']
  have:¬ 200<xs.length:=λe=>h' (.inl e)
  omega
theorem putP_mem (xs:List (List UInt8)) (s x:List UInt8) (h:x∈putP xs s):x∈xs∨x=s:=by
 unfold putP at h;split at h
 ·exact .inl h
 ·rcases Wd.1 h with h | h
  ·exact .inl (Qv h)
  ·rcases List.mem_cons.1 h with h | h
   ·exact .inr h
   ·exact .inl (List.mem_of_mem_drop h)
theorem OkT.put {m:Nat} {T:TabG} (h:OkT m T) {a:Nat} (ha:a<m) {x:List UInt8} (hx:x.length≤a*1000):OkT m (putG T a x) where
 len:=by unfold putG;rw [Qe];exact h.len
 few:=λn=>by
  unfold putG;rw [q9u _ _ _ _ (by rw [h.len];exact ha)]
  split
  ·exact putP_few _ _ (h.few a)
  ·exact h.few n
 small:=λn y hy=>by
  unfold putG at hy;rw [q9u _ _ _ _ (by rw [h.len];exact ha)] at hy
  split at hy
  ·rename_i e
   subst e;rcases putP_mem _ _ _ hy with hy | rfl
   ·exact h.small n y hy
   ·exact hx
  ·exact h.small n y hy
theorem OkT.folds {m:Nat} {a:Nat} (ha:a<m):∀ (l:List (List UInt8)) (T:TabG),OkT m T→(∀ x∈l,x.length≤a*1000)→OkT m (l.foldl (λT x=>putG T a x) T)
 | [],_,h,_=>h
 | x::l,T,h,hl=>OkT.folds ha l _ (h.put ha (hl x (Qy ..))) λy hy=>hl y (Qu _ hy)
def q94 (T:TabG) (k a:Nat) (to_:List UInt8) (j:Nat):TabG:=(((gAt T k).map (·++to_)).take j).foldl (λT x=>putG T a x) T
theorem partG_all (T:TabG) (k a:Nat) (to_:List UInt8):q94 T k a to_ (gAt T k).length=addG T k a to_:=by
 unfold q94 addG;rw [QJ (by rw [Wh];exact Q3 _)]
theorem partG_succ (T:TabG) (k a:Nat) (to_:List UInt8) (j:Nat) (x:List UInt8) (hx:(gAt T k)[j]? = some x):q94 T k a to_ (j+1)=putG (q94 T k a to_ j) a (x++to_):=by
 unfold q94;rw [QA,QV,QW,hx];rfl
theorem partG_at (T:TabG) (k a:Nat) (to_:List UInt8) (j:Nat) (ha:a<T.length) (hk:k≠a):gAt (q94 T k a to_ j) k=gAt T k:=by
 unfold q94;rw [fold_at a k _ T ha,if_neg hk]
theorem partG_ok {m:Nat} {T:TabG} (h:OkT m T) {k a:Nat} (hk:k<a) (ha:a<m) {to_:List UInt8} (ht:to_.length≤1000) (j:Nat):OkT m (q94 T k a to_ j):=by
 refine OkT.folds ha _ _ h λx hx=>?_
 obtain ⟨y,hy,rfl⟩:=Qt.1 (Qv hx);have:=h.small k y hy;rw [Qx];have:(k+1)*1000≤a*1000:=Nat.mul_le_mul_right _ hk;omega
def q6o (rs:List Rul.q0g) (w:List Int) (k:Nat) (T:TabG) (i:Nat):TabG:=(rs.take i).foldl (q7a w k) T
theorem rowsG_zero (rs:List Rul.q0g) (w:List Int) (k:Nat) (T:TabG):q6o rs w k T 0=T:=rfl
theorem rowsG_all (rs:List Rul.q0g) (w:List Int) (k:Nat) (T:TabG) (hk:k<w.length):q6o rs w k T rs.length=q7h rs w k T:=by
 unfold q6o q7h;rw [if_pos hk,List.take_length]
theorem rowsG_none (rs:List Rul.q0g) (w:List Int) (k:Nat) (T:TabG) (hk:¬ k<w.length):T=q7h rs w k T:=by
 unfold q7h;rw [if_neg hk]
theorem rowsG_succ (rs:List Rul.q0g) (w:List Int) (k:Nat) (T:TabG) (i:Nat) (x:Rul.q0g) (hx:rs[i]? = some x):q6o rs w k T (i+1)=q7a w k (q6o rs w k T i) x:=by
 unfold q6o;rw [QA,QV,hx];rfl
theorem rule_ok {m:Nat} {w:List Int} {k:Nat} {T:TabG} (h:OkT m T) (hm:k+3<m) {x:Rul.q0g} (h1:1≤x.2.1.length∧x.2.1.length≤3) (h2:x.1.2.1.length≤1000):OkT m (q7a w k T x)∧gAt (q7a w k T x) k=gAt T k:=by
 unfold q7a;split
 ·rw [← partG_all]
  exact ⟨partG_ok h (by omega) (by omega) h2 _,partG_at _ _ _ _ _ (by rw [h.len];omega) (by omega)⟩
 ·exact ⟨h,rfl⟩
theorem rows_ok {m:Nat} {w:List Int} {k:Nat} (hm:k+3<m):∀ (rs:List Rul.q0g) (T:TabG),OkT m T→(∀ x∈rs,(1≤x.2.1.length∧x.2.1.length≤3)∧x.1.2.1.length≤1000)→OkT m (rs.foldl (q7a w k) T)∧gAt (rs.foldl (q7a w k) T) k=gAt T k
 | [],T,h,_=>⟨h,rfl⟩
 | x::rs,T,h,hx=>by
  have h0:=hx x (Qy ..);have h1:=rule_ok (w:=w) h hm h0.1 h0.2;have h2:=rows_ok (w:=w) hm rs _ h1.1 λy hy=>hx y (Qu _ hy)
  exact ⟨h2.1,h2.2.trans h1.2⟩
theorem qj3 {m:Nat} {w:List Int} {k:Nat} (hm:k+3<m) {rs:List Rul.q0g} {T:TabG} (h:OkT m T) (hx:∀ x∈rs,(1≤x.2.1.length∧x.2.1.length≤3)∧x.1.2.1.length≤1000) (i:Nat):OkT m (q6o rs w k T i)∧gAt (q6o rs w k T i) k=gAt T k :=
 rows_ok hm _ T h λx hm=>hx x (Qv hm)
theorem tabG0_ok (n:Nat):OkT (n+4) (q6r n) where
 len:=by unfold q6r;rw [Qe,Q9]
 few:=λa=>by
  unfold q6r;rw [q9u _ _ _ _ (by rw [Q9];omega)]
  split
  ·decide
  ·show ((Ql (n+4) []).getD a []).length≤201
   rw [Q7,Qd];split <;> exact Qn _
 small:=λa x hx=>by
  unfold q6r at hx;rw [q9u _ _ _ _ (by rw [Q9];omega)] at hx
  split at hx
  ·rw [List.mem_singleton.1 hx];exact Qn _
  ·have hx:x∈(Ql (n+4) ([]:List (List UInt8))).getD a []:=hx
   rw [Q7,Qd] at hx;split at hx <;> cases hx
theorem qkj (rs:List Rul.q0g) (w:List Int) (f k:Nat) (T:TabG) (hk:k≤w.length) (hs:(gAt T k).length≤200):q6n rs w (f+1) k T=q6n rs w f (k+1) (q7h rs w k T):=by
 conv=>lhs;unfold q6n
 rw [if_pos hk,if_neg (by omega)]
theorem loopG_big (rs:List Rul.q0g) (w:List Int) (f k:Nat) (T:TabG) (hk:k≤w.length) (hs:200<(gAt T k).length):q6n rs w (f+1) k T=([],2):=by
 unfold q6n;rw [if_pos hk,if_pos hs]
theorem loopG_end (rs:List Rul.q0g) (w:List Int) (f k:Nat) (T:TabG) (hk:w.length<k):q6n rs w (f+1) k T=(gAt T w.length,0):=by
 unfold q6n;rw [if_neg (by omega)]
open Go.Lib R
structure Wri (w0:World) (rv fv:Array Value) (L:List Int) (vl:Value) (b1 G:Nat) (T:TabG) (vs:List Value) (w:World):Prop where
 tab:Tab w b1 G T vs
 box0:Blk w w0.heap.size 24 rv
 box1:Blk w (w0.heap.size+1) 28 fv
 lets:Dat b1 w q55 L vl
 bel:Below w0.heap.size w0 w
 lo:w0.heap.size+3≤b1
 hi:b1≤w.heap.size
section
variable {w0:World} {rv fv:Array Value} {L:List Int} {vl:Value} {b1 G:Nat} {T T':TabG} {vs vs':List Value} {w w':World}
theorem Wri.next (h:Wri w0 rv fv L vl b1 G T vs w) (hb:Below b1 w w') (ht:Tab w' b1 G T' vs'):Wri w0 rv fv L vl b1 G T' vs' w' where
 tab:=ht
 box0:=h.box0.below hb (by have:=h.lo;omega)
 box1:=h.box1.below hb (by have:=h.lo;omega)
 lets:=h.lets.keep hb
 bel:=h.bel.trans (hb.mono (by have:=h.lo;omega))
 lo:=h.lo
 hi:=Qq h.hi hb.size
theorem Wri.more (h:Wri w0 rv fv L vl b1 G T vs w) (hb:Below w.heap.size w w'):Wri w0 rv fv L vl b1 G T vs w':=h.next (hb.mono h.hi) (h.tab.bel hb)
theorem Wri.draw (h:Wri w0 rv fv L vl b1 G T vs w) (q:Nat):Wri w0 rv fv L vl b1 G T vs (w.drewN q):=h.more (q13 (q03 w) q)
end
theorem qee {b:Nat} {w:World} {r1 r2:List UInt8} {l:List Rul.Rule} {A:Option Addr} {c:Nat} (h:Dat b w q0t (r1,r2,l) (.agg #[.string (bs r1),.string (bs r2),.slice A l.length c])) {i:Nat} {x:Rul.Rule} (hx:l[i]? = some x) :
  ∃ g off,A=some ⟨g,off,none⟩∧g<b∧w.cell? ⟨g,off+i*4,none⟩=some (.string (bs x.1))∧w.cell? ⟨g,off+i*4+1,none⟩=some (.string (bs x.2.1))∧w.cell? ⟨g,off+i*4+1+1,none⟩=some (.string (bs x.2.2.1))∧w.cell? ⟨g,off+i*4+1+1+1,none⟩=some (.bool x.2.2.2):=by
 obtain ⟨us,e,hl,hu,_⟩:=h;injection e with e;subst e;obtain ⟨u2,e2,r2⟩:=hu 2 _ rfl;injection e2 with e2;subst e2;obtain ⟨A',c',e3,hc,hrow⟩:=r2;injection e3 with e3 _ _;subst e3;obtain ⟨g,off,hA,hg,hS,hcells⟩:=hrow (by have:=(Q8.1 hx).1;exact Nat.lt_of_le_of_lt (Qn _) this)
 have:=hcells i x hx
 obtain ⟨⟨u0,c0,k0⟩,⟨u1,c1,k1⟩,⟨u2,c2,k2⟩,u3,c3,k3⟩:=this;obtain rfl:u0=.string _:=k0;obtain rfl:u1=.string _:=k1;obtain rfl:u2=.string _:=k2;obtain rfl:u3=.bool _:=k3;exact ⟨g,off,hA,hS,c0,c1,c2,c3⟩
theorem dat_rule (b:Nat) (w:World) (x:Rul.Rule):Dat b w ckRule x (.agg #[.string (bs x.1),.string (bs x.2.1),.string (bs x.2.2.1),.bool x.2.2.2]):=by
 refine ⟨_,rfl,rfl,λi y hy=>?_,λi v hv=>?_⟩
 ·match i,hy with
  | 0,hy=>injection hy with hy;subst hy;exact ⟨_,rfl,rfl⟩
  | 1,hy=>injection hy with hy;subst hy;exact ⟨_,rfl,rfl⟩
  | 2,hy=>injection hy with hy;subst hy;exact ⟨_,rfl,rfl⟩
  | 3,hy=>injection hy with hy;subst hy;exact ⟨_,rfl,rfl⟩
 ·match i,hv with
  | 0,hv=>injection hv with hv;subst hv;rfl
  | 1,hv=>injection hv with hv;subst hv;rfl
  | 2,hv=>injection hv with hv;subst hv;rfl
  | 3,hv=>injection hv with hv;subst hv;rfl
theorem qgx {w:World} {base:Nat} {xs:List (List UInt8)} {v:Value} (h:w.ownsRow base 9 1 v xs.length (xs.map encS)):∃ X c,v=.slice X xs.length c:=by
 rcases h.2 with ⟨rfl,h0⟩ | ⟨g,cap,cur,rfl,_⟩
 ·exact ⟨none,0,by rw [h0]⟩
 ·exact ⟨_,_,rfl⟩
theorem own_cell {w:World} {base:Nat} {xs:List (List UInt8)} {X:Option Addr} {c:Nat} (h:w.ownsRow base 9 1 (.slice X xs.length c) xs.length (xs.map encS)) {j:Nat} {s:List UInt8} (hs:xs[j]? = some s):∃ g,X=some ⟨g,0,none⟩∧w.cell? ⟨g,j,none⟩=some (.string (bs s)):=by
 have hj:=(Q8.1 hs).1;have hne:(Qk X xs.length c)≠.slice none 0 0:=λe=>by
  injection e with _ e _;omega
 obtain ⟨g,cap,e,hb,hg,hn,hm,_,hH⟩:=Qf h hne;injection e with e _ _;refine ⟨g,e,?_⟩;have:=(hH j (by simpa using hj)).1
 rw [Qg] at this;rw [this,getElem!_pos xs.toArray j (by simpa using hj)]
 have e:xs.toArray[j]=s:=by simpa using (Q8.1 hs).2
 rw [e]
theorem made_nil (n:Nat):madeCells #[Qk none 0 0] n=(Ql n (Qk none 0 0)).toArray:=by
 unfold madeCells;refine Array.ext (by simp) λi h1 h2=>?_
 simp [Nat.mod_one]
def tabV0 (n g:Nat):List Value:=(Ql n (.slice none 0 0)).set 0 (.slice (some ⟨g,0,none⟩) 1 1)
theorem lists_start (w:World) (n:Nat):Tab ((w.alloc (.cells ((madeCells #[.slice none 0 0] (n+4)).setIfInBounds 0 (.slice (some ⟨w.heap.size+1,0,none⟩) 1 1)) 25)).alloc (.cells #[.string { data:=#[] }] 9)) w.heap.size w.heap.size (q6r n) (tabV0 (n+4) (w.heap.size+1)):=by
 obtain ⟨C,hC⟩:∃ C,(madeCells #[.slice none 0 0] (n+4)).setIfInBounds 0 (.slice (some ⟨w.heap.size+1,0,none⟩) 1 1)=C:=⟨_,rfl⟩;rw [hC];have hsz:(w.alloc (.cells C 25)).heap.size=w.heap.size+1:=by simp
 have hlit:Blk ((w.alloc (.cells C 25)).alloc (.cells #[.string { data:=#[] }] 9)) (w.heap.size+1) 9 #[.string { data:=#[] }]:=by
  have:=Blk.new (w.alloc (.cells C 25)) 9 #[.string { data:=#[] }]
  rw [hsz] at this;exact this
 refine ⟨?_,Q3 _,?_,?_,?_,?_⟩
 ·have:=(Blk.new w 25 C).alloc (.cells #[.string { data:=#[] }] 9)
  rw [made_nil,List.setIfInBounds_toArray] at hC;unfold tabV0;rw [hC];exact this
 ·unfold tabV0 q6r
  rw [Qe,Qe,Q9,Q9]
 ·intro i v xs hv hx
  unfold tabV0 at hv;unfold q6r at hx;rw [Qr] at hv hx;by_cases hi:0=i
  ·subst hi
   rw [if_pos rfl,if_pos (by rw [Q9];omega)] at hv hx
   injection hv with hv;injection hx with hx;subst hv;subst hx;refine ⟨rfl,.inr ⟨w.heap.size+1,1,#[.string { data:=#[] }],rfl,by omega,?_,Q3 _,by decide,rfl,rfl⟩⟩
   exact hlit
  ·rw [if_neg hi] at hv hx
   rw [Qd] at hv hx;split at hv
   ·rename_i h
    rw [if_pos h] at hx;injection hv with hv;injection hx with hx;subst hv;subst hx;exact QC _ _ _ _
   ·cases hv
 ·have key:∀ i v g,(tabV0 (n+4) (w.heap.size+1))[i]? = some v→v.ownBlock=some g→i=0:=λi v g hv hg=>by
   unfold tabV0 at hv;rw [Qr] at hv;by_cases hi:0=i
   ·exact hi.symm
   ·rw [if_neg hi,Qd] at hv
    split at hv
    ·injection hv with hv
     subst hv;cases hg
    ·cases hv
  intro i j v u g hv hu hg hg';rw [key i v g hv hg,key j u g hu hg']
 ·intro i v hv hg
  unfold tabV0 at hv;rw [Qr] at hv;by_cases hi:0=i
  ·subst hi
   rw [if_pos rfl,if_pos (by rw [Q9];omega)] at hv
   injection hv with hv;subst hv;have:w.heap.size+1=w.heap.size:=Qa hg;omega
  ·rw [if_neg hi,Qd] at hv
   split at hv
   ·injection hv with hv
    subst hv;cases hg
   ·cases hv
theorem Wri.at_ {w0 w:World} {rv fv:Array Value} {L:List Int} {vl:Value} {b1 G:Nat} {T:TabG} {vs:List Value} (h:Wri w0 rv fv L vl b1 G T vs w) {k:Nat} (hk:k<T.length) :
  ∃ X c,vs[k]? = some (.slice X (gAt T k).length c)∧w.cell? ⟨G,k,none⟩=some (.slice X (gAt T k).length c)∧w.ownsRow b1 9 1 (.slice X (gAt T k).length c) (gAt T k).length ((gAt T k).map encS):=by
 have hx:T[k]? = some (gAt T k):=by
  rw [Q0 hk];show some T[k]=some (T.getD k []);rw [Q7,Q0 hk];rfl
 obtain ⟨v,hv,hc,ho⟩:=h.tab.get hx;obtain ⟨X,c,rfl⟩:=qgx ho;exact ⟨X,c,hv,hc,ho⟩
theorem wri_start {w0 w2:World} {rv fv:Array Value} {L:List Int} {vl:Value} (hB:Below w0.heap.size w0 w2) (h0:Blk w2 w0.heap.size 24 rv) (h1:Blk w2 (w0.heap.size+1) 28 fv) (hlo:w0.heap.size+3≤w2.heap.size) (hL:Dat w2.heap.size w2 q55 L vl) :
  Wri w0 rv fv L vl w2.heap.size w2.heap.size (q6r L.length) (tabV0 (L.length+4) (w2.heap.size+1)) ((w2.alloc (.cells ((madeCells #[.slice none 0 0] (L.length+4)).setIfInBounds 0 (.slice (some ⟨w2.heap.size+1,0,none⟩) 1 1)) 25)).alloc (.cells #[.string { data:=#[] }] 9)):=by
 have hb:Below w2.heap.size w2 ((w2.alloc (.cells ((madeCells #[.slice none 0 0] (L.length+4)).setIfInBounds 0 (.slice (some ⟨w2.heap.size+1,0,none⟩) 1 1)) 25)).alloc (.cells #[.string { data:=#[] }] 9)):=q02 (q02 (q03 w2) _) _;exact ⟨lists_start w2 L.length,h0.bel hb,h1.bel hb,hL.keep hb,hB.trans (hb.mono (by omega)),hlo,hb.size⟩
theorem Wri.put {w0 w w':World} {rv fv:Array Value} {L:List Int} {vl:Value} {b1 G:Nat} {T:TabG} {vs:List Value} (h:Wri w0 rv fv L vl b1 G T vs w) {a:Nat} {v v':Value} {ys:List (List UInt8)} (hv:vs[a]? = some v) (hx:a<T.length) (ho:w'.ownsRow b1 9 1 v' ys.length (ys.map encS)) (hg:w.grownBy w' v.ownBlock)
  (hb:v'.ownBlock=v.ownBlock∨∀ g',v'.ownBlock=some g'→w.heap.size≤g'):Wri w0 rv fv L vl b1 G (T.set a ys) (vs.set a v') (w'.setCell ⟨G,a,none⟩ v'):=by
 have hbl:Below b1 w w':=⟨hg.os,hg.tape,hg.output,hg.size,λg hgl=>hg.block g (Qc hgl h.hi) λe=>by
  have:=q2r (h.tab.own a v _ hv (Q0 (by exact hx))) g e.symm
  omega⟩
 exact h.next (hbl.setCell h.tab.low v') (h.tab.put hv ho hg hb)
theorem wri_put_call {w0 w:World} {rv fv:Array Value} {L:List Int} {vl:Value} {b1 G:Nat} {T:TabG} {vs:List Value} (h:Wri w0 rv fv L vl b1 G T vs w) {a na ca:Nat} {Xa:Option Addr} (hv:vs[a]? = some (.slice Xa na ca)) (hx:a<T.length) (hn:na=(gAt T a).length) (hf:na≤201) (s:List UInt8) (hs:s.length≤1000000) :
  Calls Tryz.prog 28 #[.slice Xa na ca,.string (bs s),.int .i64 200] w.drew λe w'=>∃ Y m c',e=.returned (.slice Y m c')∧w'.cell? ⟨G,a,none⟩=some (.slice Xa na ca)∧w'.frozen? ⟨G,a,none⟩=false∧Aside (Wri w0 rv fv L vl b1 G (putG T a s) (vs.set a (.slice Y m c')) (w'.setCell ⟨G,a,none⟩ (.slice Y m c'))):=by
 have h1:Wri w0 rv fv L vl b1 G T vs w.drew:=h.draw 1;have hT:T[a]? = some (gAt T a):=by
  rw [Q0 hx];show some T[a]=some (T.getD a []);rw [Q7,Q0 hx];rfl
 have ho:=h1.tab.own a _ _ hv hT;refine (put_any w.drew b1 (.slice Xa na ca) (gAt T a) s h1.hi ho (by omega) hs).mono ?_
 rintro e w' ⟨v',rfl,p1,p2,p3⟩;have hblk:=h1.tab.blk.grown p2 (λe=>h1.tab.off a _ hv e.symm)
 obtain ⟨Y,c',rfl⟩:=qgx p1;refine ⟨Y,_,c',rfl,?_,hblk.frozen a,?_⟩
 ·rw [hblk.cell a];simpa using hv
 ·exact h1.put hv hx p1 p2 p3
end Go.Proofs.YtlmbfijhkcmncaaGreatDoor
namespace Go.Proofs.YtlmbfijhkcmncaaGreatDoor
open Go.RowKit Go.Lib
open R
attribute [local go_sem] Later.cell Later.frozen
set_option maxHeartbeats 4000000 in
set_option maxRecDepth 1000000 in
theorem writ_all (w0:World) (r1 r2:List UInt8) (l:List Rul.Rule) (f1:List UInt8) (f2:List (List UInt8)) (f3:List Int) (t1:List UInt8) (t2:List (List UInt8)) (t3:List Int) (s:List UInt8) (A:Option Addr) (c:Nat) (F G:Option Addr) (cf cg:Nat) (T U:Option Addr) (ct cu:Nat)
  (hr:Dat w0.heap.size w0 q0t (r1,r2,l) (.agg #[.string (bs r1),.string (bs r2),.slice A l.length c])) (hf:Dat w0.heap.size w0 ckAl (f1,f2,f3) (.agg #[.string (bs f1),.slice F f2.length cf,.slice G f3.length cg])) (ht:Dat w0.heap.size w0 ckAl (t1,t2,t3) (.agg #[.string (bs t1),.slice T t2.length ct,.slice U t3.length cu]))
  (hp:FewR (r1,r2,l)∧FewP (f1,f2,f3)∧FewP (t1,t2,t3)∧s.length≤1000000) (hv:Rul.q09 (r1,r2,l) (alOf (f1,f2,f3)) (alOf (t1,t2,t3))=true) (L:List Int) (ea:Int) (hL:Al.q0m f2 s=(L,0,ea)) (Rr:List (List UInt8)×Int) (hRr:q6n (l.map (Rul.q1b f2)) L (L.length+2) 0 (q6r L.length)=Rr) :
  Calls Tryz.prog 7 #[.agg #[.string (bs r1),.string (bs r2),.slice A l.length c],.agg #[.string (bs f1),.slice F f2.length cf,.slice G f3.length cg],.agg #[.string (bs t1),.slice T t2.length ct,.slice U t3.length cu],.string (bs s)] w0 λe w' =>
   ∃ v,e=.returned (.tuple #[v,.int .i64 Rr.2])∧w'.ownsRow w0.heap.size 9 1 v Rr.1.length (Rr.1.map encS)∧Below w0.heap.size w0 w':=by
 have HLL:=q0i hL;have HRR:=q0i hRr;clear hL hRr;have HR:Aside (Dat w0.heap.size w0 q0t (r1,r2,l) (.agg #[.string (bs r1),.string (bs r2),.slice A l.length c])):=hr;have HF:Aside (Dat w0.heap.size w0 ckAl (f1,f2,f3) (.agg #[.string (bs f1),.slice F f2.length cf,.slice G f3.length cg])):=hf;have HT:Aside (Dat w0.heap.size w0 ckAl (t1,t2,t3) (.agg #[.string (bs t1),.slice T t2.length ct,.slice U t3.length cu])):=ht;have HP:Aside (FewR (r1,r2,l)∧FewP (f1,f2,f3)∧FewP (t1,t2,t3)∧s.length≤1000000):=hp;clear hr hf ht hp
 go_enter Tryz.func7,Tryz.ntmps7
 go_wp2_with fail
 have hb3:=(q02 (q02 (q02 (q03 w0) (.cells #[.string (bs r1),.string (bs r2),.slice A l.length c] 24)) (.cells #[.string (bs f1),.slice F f2.length cf,.slice G f3.length cg] 28)) (.cells #[.string (bs t1),.slice T t2.length ct,.slice U t3.length cu] 28));refine (qex hb3.size (HR.out.keep hb3) (HF.out.keep hb3) (HT.out.keep hb3) ⟨HP.out.1,HP.out.2.1,HP.out.2.2.1⟩).mono ?_;rintro e w1 ⟨rfl,hb1⟩;rw [hv];have HB:=q0i (hb3.trans (hb1.mono hb3.size));have hfm:=form_of hv HP.out.2.1;have HF1:=q0i ((HF.out.keep hb3).keep (hb1.mono hb3.size));have hle1:w0.heap.size≤w1.heap.size:=Qq hb3.size hb1.size;obtain ⟨k0,k1,k2⟩:=box_two (hb:=hb1);have X0:Blk w1 w0.heap.size 24 #[.string (bs r1),.string (bs r2),.slice A l.length c]:=(((Blk.new w0 _ _).alloc _).alloc _).bel hb1;have X1:Blk w1 (w0.heap.size+1) 28 #[.string (bs f1),.slice F f2.length cf,.slice G f3.length cg]:=by
  have h:Blk ((w0.alloc (.cells #[.string (bs r1),.string (bs r2),.slice A l.length c] 24)).alloc (.cells #[.string (bs f1),.slice F f2.length cf,.slice G f3.length cg] 28)) (w0.heap.size+1) 28 #[.string (bs f1),.slice F f2.length cf,.slice G f3.length cg]:=by
   have:=Blk.new (w0.alloc (.cells #[.string (bs r1),.string (bs r2),.slice A l.length c] 24)) 28 #[.string (bs f1),.slice F f2.length cf,.slice G f3.length cg]
   simpa using this
  exact (h.alloc _).bel hb1
 have hlo1:w0.heap.size+3≤w1.heap.size:=by
  have:=hb1.size
  simp at this;omega
 have XX0:=q0i X0;have XX1:=q0i X1;clear hb3 hb1 X0 X1
 go_wp2_with fail
 refine (qg2 hle1 HF1.out ⟨hfm,HP.out.2.2.2⟩).mono ?_;rintro e w2 ⟨A2,c2,rfl,hd2,hb2⟩;have hn24:L.length≤24:=by
  have:=Al.qbb f2 s
  rw [HLL.out] at this;exact this
 rw [HLL.out] at hd2 ⊢
 change Dat w2.heap.size w2 q55 L (.slice A2 L.length c2) at hd2
 have HB2:=q0i (HB.out.trans (hb2.mono hle1));have HX0:=q0i (XX0.out.bel hb2);have HX1:=q0i (XX1.out.bel hb2);have hlo2:w0.heap.size+3≤w2.heap.size:=Qq hlo1 hb2.size;have HD2:=q0i hd2;clear k0 k1 k2 HB hd2 XX0 XX1 HF1 hlo1 hle1 hb2;have hfrm:=q0i hfm;have hval:=q0i hv;clear hfm hv;have hmk:Sem.run Tryz.prog (Instr.makeSlice 62 (.int .i64 ((L.length:Int)+4)) (.int .i64 ((L.length:Int)+4))) w2=.ok (.slice (some ⟨w2.heap.size,0,none⟩) (L.length+4) (L.length+4)) (w2.alloc (.cells (madeCells #[.slice none 0 0] (L.length+4)) 25)):=by
  have:=run_make_row' (P:=Tryz.prog) 62 25 (.slice none 0 0) 24 (by kernel_rfl) (by kernel_rfl) rfl .i64 .i64 (L.length+4) (by omega) (by omega) w2
  rw [show ((L.length:Int)+4)=((L.length+4:Nat):Int) from rfl];exact this
 have hm0:(madeCells #[Qk none 0 0] (L.length+4))[0]? = some (.slice none 0 0):=by rw [made_nil];simp
 go_wp2
 have HW:=q0i (wri_start HB2.out HX0.out HX1.out hlo2 HD2.out);clear hmk hm0 HB2 HX0 HX1 HD2;have HPOS:Aside (∀ x∈l.map (Rul.q1b f2),(1≤x.2.1.length∧x.2.1.length≤3)∧x.1.2.1.length≤1000):=λx hx=>⟨pos3_of hval.out x hx,by
  obtain ⟨y,hy,rfl⟩:=Qt.1 hx;exact (HP.out.1.2.2.2 y hy).2.1⟩
 have hl1000:l.length≤1000:=HP.out.1.2.2.1;obtain ⟨b1,hb1⟩:∃ b1,w2.heap.size=b1:=⟨_,rfl⟩;rw [hb1] at HW ⊢;clear hb1 hlo2
 go_loopg [14] (L.length+2) (λgh s14 wr=>∃ (k:Nat) (Tt:TabG) (vs:List Value),s14=.int .i64 k∧k≤L.length+1∧OkT (L.length+4) Tt∧q6n (l.map (Rul.q1b f2)) L (L.length+2-k) k Tt=Rr∧L.length+2-k≤gh∧Wri w0 #[.string (bs r1),.string (bs r2),.slice A l.length c] #[.string (bs f1),.slice F f2.length cf,.slice G f3.length cg] L (.slice A2 L.length c2) b1 b1 Tt vs wr)
 case atStart=>exact ⟨0,q6r L.length,_,by go_num,by omega,tabG0_ok _,HRR.out,by omega,HW.out⟩
 case round =>
  obtain ⟨k,Tt,vs,rfl,hk,hT,hloop,hgg,hWr⟩:=hrel;have WR:=q0i hWr;have HL:=q0i hloop;have OT:=q0i hT;clear hWr hloop hT HW HRR;by_cases hkn:k≤L.length
  ·have hkn':(k:Int)≤(L.length:Int):=by omega
   obtain ⟨X,cx,hvk,hck,hok⟩:=WR.out.at_ (k:=k) (by rw [OT.out.len];omega)
   have hn201:=OT.out.few k;obtain ⟨ff,hff⟩:∃ ff,L.length+2-k=ff+1:=⟨L.length+1-k,by omega⟩
   have FF:=q0i hff;obtain ⟨nk,hnk⟩:∃ nk,(gAt Tt k).length=nk:=⟨_,rfl⟩;have NK:=q0i hnk;rw [hnk] at hvk hck hok hn201;have HVK:=q0i hvk;have HOK:=q0i hok;clear hvk hok hff hnk;by_cases hbig:200<nk
   ·have hbig':(200:Int)<(nk:Int):=by omega
    go_wp2
    go_ret2
    have h:=HL.out;rw [FF.out,loopG_big _ _ _ _ _ hkn (by rw [NK.out];exact hbig)] at h
    rw [← h];exact ⟨_,rfl,QC _ _ _ _,WR.out.bel⟩
   ·have hbig':(nk:Int)≤200:=by omega
    go_wp2
    have cb0:wr.cell? ⟨w0.heap.size,2,none⟩=some (.slice A l.length c):=WR.out.box0.cell 2
    go_loopg [15] (l.length+1) (λgh s15 wr2=>∃ (i:Nat) (vs2:List Value),s15=.int .i64 i∧i≤l.length∧(i=0∨k<L.length)∧l.length-i≤gh∧Wri w0 #[.string (bs r1),.string (bs r2),.slice A l.length c] #[.string (bs f1),.slice F f2.length cf,.slice G f3.length cg] L (.slice A2 L.length c2) b1 b1 (q6o (l.map (Rul.q1b f2)) L k Tt i) vs2 wr2)
    case atStart=>exact ⟨0,vs,by go_num,Qn _,.inl rfl,by omega,WR.out⟩
    case round =>
     obtain ⟨i,vs2,rfl,hi,hik,hg2,hW2⟩:=hrel;have W2:=q0i hW2;clear hW2 hck cb0;have cb0:wr.cell? ⟨w0.heap.size,2,none⟩=some (.slice A l.length c):=W2.out.box0.cell 2;have hend:(¬ (i<l.length∧k<L.length))→q6o (l.map (Rul.q1b f2)) L k Tt i=q7h (l.map (Rul.q1b f2)) L k Tt:=λhn=>by
      by_cases hkl:k<L.length
      ·have:i=(l.map (Rul.q1b f2)).length:=by rw [Wh];omega
       rw [this];exact rowsG_all _ _ _ _ hkl
      ·obtain rfl:i=0:=hik.resolve_right hkl
       rw [rowsG_zero];exact rowsG_none _ _ _ _ hkl
     have HEND:=q0i hend;clear hend;by_cases hil:i<l.length
     ·have hil':(i:Int)<(l.length:Int):=by omega
      by_cases hkl:k<L.length
      ·have hkl':(k:Int)<(L.length:Int):=by omega
       obtain ⟨x,hx⟩:∃ x,l[i]? = some x:=⟨_,Q0 hil⟩;obtain ⟨gr,off,rfl,hgr,e0,e1,e2,e3⟩:=qee (HR.out.keep W2.out.bel) hx;have HX:=q0i hx;clear hx;have cf0:wr.cell? ⟨w0.heap.size+1,0,none⟩=some (.string (bs f1)):=W2.out.box1.cell 0;have cf1:wr.cell? ⟨w0.heap.size+1,1,none⟩=some (.slice F f2.length cf):=W2.out.box1.cell 1;have cf2:wr.cell? ⟨w0.heap.size+1,2,none⟩=some (.slice G f3.length cg):=W2.out.box1.cell 2;have hlt0:=W2.out.box0.lt;have hlt1:=W2.out.box1.lt;have hltr:gr<wr.heap.size:=by omega
       go_wp2
       refine q99 8 (by kernel_rfl) (by kernel_rfl) ?_
       simp only [QQ,Wj,QR,Wl]
       repeat (go_big_quiet_step ((fail)))
       refine wpQuiet_nil ?_;rintro _ ⟨y,rfl⟩;have W3:=q0i (W2.out.more y.bel);have hx':(l.map (Rul.q1b f2))[i]? = some (Rul.q1b f2 x):=by rw [QW,HX.out];rfl
       have hsucc:=rowsG_succ (l.map (Rul.q1b f2)) L k Tt i _ hx';unfold q7a at hsucc;have HSUCC:=q0i hsucc;have hxp:=HPOS.out _ (Qw hx');have HXP:=q0i hxp;have hft:FewT x:=HP.out.1.2.2.2 x (Qw HX.out);have HFT:=q0i hft;clear hx' hsucc hxp hft
       go_wp2_with fail
       refine (stands_call (b:=b1) W3.out.hi (dat_rule _ _ x) ((HF.out.keep W3.out.bel).wide (by have:=W3.out.lo;omega)) W3.out.lets ⟨HFT.out,hfrm.out,by omega,by omega,by omega⟩).mono ?_
       rintro e w4 ⟨rfl,hb4⟩;have W4:=q0i (W3.out.more hb4);clear hb4 e0 e1 e2 e3 cf0 cf1 cf2 hlt0 hlt1 hltr;rw [Int.toNat_natCast]
       go_wp2_with fail
       repeat (go_big_quiet_step ((fail)))
       refine wpQuiet_nil ?_;cases hst:Rul.q0x (Rul.q1b f2 x) (L.drop k)
       ·have h1:=HSUCC.out
        rw [hst,if_neg (by decide)] at h1
        have H1:=q0i h1;clear h1
        go_wp2
        go_roundg (l.length-(i+1))
        case measure=>omega
        case rel=>exact ⟨i+1,vs2,by go_num,by omega,.inr hkl,Q3 _,by rw [H1.out];exact W4.out⟩
       ·have h1:=HSUCC.out
        rw [hst,if_pos rfl] at h1;have H1:=q0i h1;clear h1 hst;obtain ⟨gr',off',he',hgr',e0,e1,e2,e3⟩:=qee (HR.out.keep W4.out.bel) HX.out;injection he' with he';injection he' with he1 he2 _;subst he1;subst he2;have cb0:w4.cell? ⟨w0.heap.size,2,none⟩=some (.slice (some ⟨gr,off,none⟩) l.length c):=W4.out.box0.cell 2;have cf0:w4.cell? ⟨w0.heap.size+1,0,none⟩=some (.string (bs f1)):=W4.out.box1.cell 0;have cf1:w4.cell? ⟨w0.heap.size+1,1,none⟩=some (.slice F f2.length cf):=W4.out.box1.cell 1;have cf2:w4.cell? ⟨w0.heap.size+1,2,none⟩=some (.slice G f3.length cg):=W4.out.box1.cell 2;have hlt0:=W4.out.box0.lt;have hlt1:=W4.out.box1.lt;have hltr:gr<w4.heap.size:=by omega
        go_wp2
        refine q99 7 (by kernel_rfl) (by kernel_rfl) ?_
        simp only [QQ,Wj,QR,Wl]
        repeat (go_big_quiet_step ((fail)))
        refine wpQuiet_nil ?_;rintro _ ⟨y2,rfl⟩;have W5:=q0i (W4.out.more y2.bel)
        go_wp2_with fail
        obtain ⟨nf,hnf⟩:∃ nf,(Rul.q07 f2 x.1 3).1.length=nf:=⟨_,rfl⟩;have hxp:=HXP.out;have h1:=H1.out
        change (1≤(Rul.q07 f2 x.1 3).1.length∧(Rul.q07 f2 x.1 3).1.length≤3)∧x.2.1.length≤1000 at hxp
        change _=addG _ k (k+(Rul.q07 f2 x.1 3).1.length) x.2.1 at h1
        have hrc:=read_call (s:=x.1) (m:=3) (b:=w0.heap.size) W5.out.bel.size (HF.out.keep W5.out.bel) ⟨hfrm.out,by have:=HFT.out.1;omega⟩
        rw [show (Rul.q07 (f1,f2,f3).2.1 x.1 3).1.length=nf from hnf] at hrc;rw [hnf] at hxp h1;have H1':=q0i h1;clear h1 hnf H1 HXP;refine hrc.mono ?_;clear hrc;rintro e w6 ⟨A6,c6,rfl,hb6⟩;have W6:=q0i (W5.out.more hb6);clear hb6 e0 e1 e2 e3 cf0 cf1 cf2 cb0 hlt0 hlt1 hltr hgr'
        go_wp2_with fail
        repeat (go_big_quiet_step ((fail)))
        refine wpQuiet_nil ?_
        go_wp2
        have hri:=qj3 (w:=L) (k:=k) (m:=L.length+4) (by omega) OT.out HPOS.out i
        have HRI:=q0i hri;clear hri
        go_loopg [18] (nk+1) (λgh s18 wr3=>∃ (j:Nat) (vs3:List Value),s18=.int .i64 j∧j≤nk∧nk-j≤gh∧Wri w0 #[.string (bs r1),.string (bs r2),.slice (some ⟨gr,off,none⟩) l.length c] #[.string (bs f1),.slice F f2.length cf,.slice G f3.length cg] L (.slice A2 L.length c2) b1 b1 (q94 (q6o (l.map (Rul.q1b f2)) L k Tt i) k (k+nf) x.2.1 j) vs3 wr3)
        case atStart=>exact ⟨0,vs2,by go_num,Qn _,by omega,W6.out⟩
        case round =>
         obtain ⟨j,vs3,rfl,hj,hg3,hW7⟩:=hrel;have W7:=q0i hW7;clear hW7;have hpk:gAt (q94 (q6o (l.map (Rul.q1b f2)) L k Tt i) k (k+nf) x.2.1 j) k=gAt Tt k:=by
          rw [partG_at _ _ _ _ _ (by rw [HRI.out.1.len];omega) (by omega),HRI.out.2]
         have hpo:=partG_ok HRI.out.1 (k:=k) (a:=k+nf) (by omega) (by omega) hxp.2 j
         have HPO:=q0i hpo;obtain ⟨Xk,ck,hvk,hck,hok⟩:=W7.out.at_ (k:=k) (by rw [HPO.out.len];omega)
         rw [hpk,NK.out] at hvk hck;rw [hpk] at hok;have HPK:=q0i hpk;have HVK2:=q0i hvk;have HOK2:=q0i hok;clear hpk hpo hvk hok;by_cases hjn:j<nk
         ·have hjn':(j:Int)<(nk:Int):=by omega
          obtain ⟨sj,hsj⟩:∃ sj,(gAt Tt k)[j]? = some sj:=⟨_,Q0 (by rw [NK.out];exact hjn)⟩
          have HSJ:=q0i hsj;obtain ⟨gk,rfl,hcj⟩:=own_cell (xs:=gAt Tt k) (c:=ck) (X:=Xk) (by rw [NK.out];rw [NK.out] at HOK2;exact HOK2.out) hsj
          have hsjl:=OT.out.small k sj (Qw hsj);clear hsj;obtain ⟨Xa,ca,hva,hca,hoa⟩:=W7.out.at_ (k:=k+nf) (by rw [HPO.out.len];omega)
          obtain ⟨na,hna⟩:∃ na,(gAt (q94 (q6o (l.map (Rul.q1b f2)) L k Tt i) k (k+nf) x.2.1 j) (k+nf)).length=na:=⟨_,rfl⟩;have hna201:=HPO.out.few (k+nf);rw [hna] at hva hca hna201;have HNA:=q0i hna;have HVA:=q0i hva;have HOA:=q0i hoa;clear hva hoa hna;obtain ⟨gr',off',he',hgr',e0,e1,e2,e3⟩:=qee (HR.out.keep W7.out.bel) HX.out;injection he' with he';injection he' with he1 he2 _;subst he1;subst he2;have cb0:wr.cell? ⟨w0.heap.size,2,none⟩=some (.slice (some ⟨gr,off,none⟩) l.length c):=W7.out.box0.cell 2;clear e0 e2 e3 hgr';have hil':(i:Int)<(l.length:Int):=by omega
          have hkl4:(k:Int)<(L.length:Int)+4:=by omega
          have hkf4:(k:Int)+(nf:Int)<(L.length:Int)+4:=by omega
          have hsum:sj.length+x.2.1.length≤100000:=by omega
          have hbss:bs sj++bs x.2.1=bs (sj++x.2.1):=by rw [app_bs,q2h,q2h]
          have hc1:(9223372036854775807<sj.length+x.2.1.length)=False:=eq_false (by omega)
          obtain ⟨a,ha⟩:∃ a,k+nf=a:=⟨_,rfl⟩;have hkf0:(0:Int)≤(a:Int):=by omega
          have hka4:(a:Int)<(L.length:Int)+4:=by omega
          have hkw:IntKind.i64.wrap ((k:Int)+(nf:Int))=(a:Int):=by
           rw [IntWalk.i64_in _ ⟨by omega,by omega⟩];omega
          rw [ha] at hca;have HAA:=q0i ha;clear ha hkf4;have hput:=wri_put_call W7.out (a:=a) (by rw [← HAA.out];exact HVA.out) (by rw [HPO.out.len];omega) (by rw [← HAA.out];exact HNA.out.symm) hna201 (sj++x.2.1) (by rw [Qx];omega)
          have hps:=partG_succ (q6o (l.map (Rul.q1b f2)) L k Tt i) k a x.2.1 j sj (by rw [HRI.out.2];exact HSJ.out)
          rw [HAA.out,← hps] at hput;have HPUT:=q0i hput;clear hput hps hsjl hsum hxp
          go_wp2
          go_region_with (first | (go_at_call 28;refine (HPUT.out).mono ?_;rintro e w8 ⟨Y8,m8,c8,rfl,hc8,hf8,hw8⟩))
          all_goals go_wp2
          all_goals go_roundg (nk-(j+1))
          all_goals first
           | omega
           | exact ⟨j+1,vs3.set a (.slice Y8 m8 c8),by go_num,by omega,Q3 _,by rw [HAA.out];exact hw8.out⟩
         ·have hjn':(nk:Int)≤(j:Int):=by omega
          go_wp2
          go_roundg (l.length-(i+1))
          case measure=>omega
          case rel =>
           refine ⟨i+1,vs3,by go_num,by omega,.inr hkl,Q3 _,?_⟩
           have h7:=W7.out;rw [show j=nk by omega,← NK.out,← HRI.out.2,partG_all,← H1'.out] at h7
           exact h7
      ·have hkl':(L.length:Int)≤(k:Int):=by omega
       go_wp2
       go_roundg (L.length+2-(k+1))
       case measure=>omega
       case rel =>
        have h:=HL.out;rw [FF.out,qkj _ _ _ _ _ hkn (by rw [NK.out];omega),show ff=L.length+2-(k+1) by have:=FF.out;omega] at h
        refine ⟨k+1,q7h (l.map (Rul.q1b f2)) L k Tt,vs2,by go_num,by omega,?_,h,Q3 _,?_⟩
        ·rw [← HEND.out (λh=>hkl h.2)];exact (qj3 (by omega) OT.out HPOS.out i).1
        ·rw [← HEND.out (λh=>hkl h.2)];exact W2.out
     ·have hil':(l.length:Int)≤(i:Int):=by omega
      go_wp2
      go_roundg (L.length+2-(k+1))
      case measure=>omega
      case rel =>
       have h:=HL.out;rw [FF.out,qkj _ _ _ _ _ hkn (by rw [NK.out];omega),show ff=L.length+2-(k+1) by have:=FF.out;omega] at h
       refine ⟨k+1,q7h (l.map (Rul.q1b f2)) L k Tt,vs2,by go_num,by omega,?_,h,Q3 _,?_⟩
       ·rw [← HEND.out (λh=>hil h.1)];exact (qj3 (by omega) OT.out HPOS.out i).1
       ·rw [← HEND.out (λh=>hil h.1)];exact W2.out
  ·have hkn':(L.length:Int)<(k:Int):=by omega
   obtain ⟨X,cx,hvk,hck,hok⟩:=WR.out.at_ (k:=L.length) (by rw [OT.out.len];omega)
   have h:=HL.out;obtain ⟨ff,hff⟩:∃ ff,L.length+2-k=ff+1:=⟨L.length+1-k,by omega⟩
   rw [hff,loopG_end _ _ _ _ _ (by omega)] at h
   have HH:=q0i h;have HOK:=q0i hok;have hlL4:(L.length:Int)<(L.length:Int)+4:=by omega
   clear hvk h hok hff
   go_wp2
   go_ret2
   rw [← HH.out];exact ⟨_,rfl,q6u HOK.out (by have:=WR.out.lo;omega),WR.out.bel⟩
end Go.Proofs.YtlmbfijhkcmncaaGreatDoor
namespace Go.Proofs.YtlmbfijhkcmncaaGreatDoor
open Go.RowKit Go.Lib R
theorem four_argsW {κ:Cx} {w:World} {a b c d:Comp} {vs:List Value} (h:q0f κ w [a,b,c,d] vs):∃ x y z u,vs=[x,y,z,u]∧a.Rep κ w x∧b.Rep κ w y∧c.Rep κ w z∧d.Rep κ w u:=by
 obtain ⟨hl,h⟩:=h;obtain ⟨x,e0,r0⟩:=h 0 _ rfl;obtain ⟨y,e1,r1⟩:=h 1 _ rfl;obtain ⟨z,e2,r2⟩:=h 2 _ rfl;obtain ⟨u,e3,r3⟩:=h 3 _ rfl
 match vs,hl,e0,e1,e2,e3 with
 | [x',y',z',u'],_,e0,e1,e2,e3 =>
  injection e0 with e0;injection e1 with e1;injection e2 with e2;injection e3 with e3;subst e0;subst e1;subst e2;subst e3;exact ⟨_,_,_,_,rfl,r0,r1,r2,r3⟩
theorem dat_of {w:World} {S:Nat→Prop} (hS:∀ g,S g→g<w.heap.size) {c:CK} {p:c.Pay} {v:Value} (h:(c.comp p).Rep (Cx.of S) w v):Dat w.heap.size w c p v :=
 Comp.Rep.mono (κ:=Cx.of S) (λ_ _ h=>Cell.Rep.keeps (κ:=Cx.of S) (κ':=Cx.of λg=>g<w.heap.size) rfl rfl rfl (Keeps.refl w _) (λg hg _=>hS g hg) h) h
theorem rules_shape {b:Nat} {w:World} {r1 r2:List UInt8} {l:List Rul.Rule} {v:Value} (h:Dat b w q0t (r1,r2,l) v):∃ A c,v=.agg #[.string (bs r1),.string (bs r2),.slice A l.length c]:=by
 obtain ⟨us,rfl,hl,hu,_⟩:=h;obtain ⟨u0,e0,k0⟩:=hu 0 _ rfl;obtain ⟨u1,e1,k1⟩:=hu 1 _ rfl;obtain ⟨u2,e2,k2⟩:=hu 2 _ rfl;obtain rfl:u0=.string _:=k0;obtain rfl:u1=.string _:=k1;obtain ⟨A,c,rfl,_⟩:=k2;refine ⟨A,c,?_⟩;obtain ⟨us⟩:=us
 match us,hl,e0,e1,e2 with
 | [x,y,z],_,e0,e1,e2 =>
  injection e0 with e0;injection e1 with e1;injection e2 with e2;have e0:x=_:=e0;have e1:y=_:=e1;have e2:z=_:=e2;rw [e0,e1,e2]
theorem al_shape {b:Nat} {w:World} {f1:List UInt8} {f2:List (List UInt8)} {f3:List Int} {v:Value} (h:Dat b w ckAl (f1,f2,f3) v):∃ F G cf cg,v=.agg #[.string (bs f1),.slice F f2.length cf,.slice G f3.length cg]:=by
 obtain ⟨us,rfl,hl,hu,_⟩:=h;obtain ⟨u0,e0,k0⟩:=hu 0 _ rfl;obtain ⟨u1,e1,k1⟩:=hu 1 _ rfl;obtain ⟨u2,e2,k2⟩:=hu 2 _ rfl;obtain rfl:u0=.string _:=k0;obtain ⟨F,cf,rfl,_⟩:=k1;obtain ⟨G,cg,rfl,_⟩:=k2;refine ⟨F,G,cf,cg,?_⟩;obtain ⟨us⟩:=us
 match us,hl,e0,e1,e2 with
 | [x,y,z],_,e0,e1,e2 =>
  injection e0 with e0;injection e1 with e1;injection e2 with e2;have e0:x=_:=e0;have e1:y=_:=e1;have e2:z=_:=e2;rw [e0,e1,e2]
theorem strs_rep {w w':World} {v:Value} {xs:List (List UInt8)} {S:Nat→Prop} (h:w'.ownsRow w.heap.size 9 1 v xs.length (xs.map encS)):Cell.Rep (Cx.of λg=>S g∨(w.heap.size≤g∧g<w'.heap.size)) w' (.val (.sl (.one .str)) xs) v:=by
 obtain ⟨X,c,rfl⟩:=qgx h;rcases h.2 with ⟨e,h0⟩ | ⟨g,cap,cur,e,hb,hg,hn,hm,hs,ht⟩
 ·injection e with e1 e2 e3
  subst e1;subst e3;refine ⟨none,0,rfl,by show xs.length≤0;omega,λhp=>?_⟩
  have hp:0<xs.length:=hp;omega
 ·injection e with e1 e2 e3
  subst e1;subst e3;have hlt:g<w'.heap.size:=(Qz.1 hg).1;refine ⟨some ⟨g,0,none⟩,c,rfl,hn,λhp=>⟨g,0,rfl,hlt,.inr ⟨hb,hlt⟩,λi x hi=>?_⟩⟩
  obtain ⟨g',e',hc⟩:=own_cell h (j:=i) (s:=x) hi;injection e' with e';injection e' with e';subst e';have e0:0+i*Kds.size (.one .str)=i:=by show 0+i*1=i;omega
  rw [e0];exact ⟨_,hc,rfl⟩
theorem nil_rep {κ:Cx} {w:World}:Cell.Rep κ w (.val (.sl (.one .str)) ([]:List (List UInt8))) (.slice none 0 0):=⟨none,0,rfl,Q3 _,λh=>absurd h (Nat.lt_irrefl 0)⟩
theorem gWrit_holds:gWrit.Holds Tryz.prog:=by
 refine ⟨⟨⟨_,Tryz.func7,by kernel_rfl,by kernel_rfl⟩,λF' hF p r hr=>by injection hF with hF;subst hF;exact hr⟩,λp vs w S hS hp hvs=>?_⟩
 obtain ⟨⟨r1,r2,l⟩,⟨f1,f2,f3⟩,⟨t1,t2,t3⟩,s⟩:=p;obtain ⟨v0,v1,v2,v3,rfl,h0,h1,h2,h3⟩:=four_argsW hvs;have d0:Dat w.heap.size w q0t (r1,r2,l) v0:=dat_of hS h0;have d1:Dat w.heap.size w ckAl (f1,f2,f3) v1:=dat_of hS h1;have d2:Dat w.heap.size w ckAl (t1,t2,t3) v2:=dat_of hS h2;obtain rfl:v3=.string (bs s):=h3;obtain ⟨A,c,rfl⟩:=rules_shape d0;obtain ⟨F,G,cf,cg,rfl⟩:=al_shape d1;obtain ⟨T,U,ct,cu,rfl⟩:=al_shape d2;have key:∀ (R:List (List UInt8)×Int),writG (r1,r2,l) (alOf (f1,f2,f3)) (alOf (t1,t2,t3)) s=R→Calls Tryz.prog 7 #[.agg #[.string (bs r1),.string (bs r2),.slice A l.length c],.agg #[.string (bs f1),.slice F f2.length cf,.slice G f3.length cg],.agg #[.string (bs t1),.slice T t2.length ct,.slice U t3.length cu],.string (bs s)] w λe w' =>
   ∃ v,e=.returned (.tuple #[v,.int .i64 R.2])∧Cell.Rep (Cx.of λg=>S g∨(w.heap.size≤g∧g<w'.heap.size)) w' (.val (.sl (.one .str)) R.1) v∧Below w.heap.size w w':=λR hR=>by
  unfold writG at hR;cases hv:Rul.q09 (r1,r2,l) (alOf (f1,f2,f3)) (alOf (t1,t2,t3))
  ·rw [hv] at hR
   have hR:([],(1:Int))=R:=hR;subst hR;refine (writ_bad w r1 r2 l f1 f2 f3 t1 t2 t3 s A c F G cf cg T U ct cu d0 d1 d2 hp hv).mono ?_;rintro e w' ⟨rfl,hb⟩;exact ⟨_,rfl,nil_rep,hb⟩
  ·cases he:((Al.q0m f2 s).2.1==0)
   ·rw [hv,show ((Al.q0m (alOf (f1,f2,f3)).letters s).2.1==0)=false from he] at hR
    have hR:([],(1:Int))=R:=hR;subst hR;refine (writ_none w r1 r2 l f1 f2 f3 t1 t2 t3 s A c F G cf cg T U ct cu d0 d1 d2 hp hv he).mono ?_;rintro e w' ⟨rfl,hb⟩;exact ⟨_,rfl,nil_rep,hb⟩
   ·rw [hv,show ((Al.q0m (alOf (f1,f2,f3)).letters s).2.1==0)=true from he] at hR
    have he0:(Al.q0m f2 s).2.1=0:=beq_iff_eq.1 he;refine (writ_all w r1 r2 l f1 f2 f3 t1 t2 t3 s A c F G cf cg T U ct cu d0 d1 d2 hp hv (Al.q0m f2 s).1 (Al.q0m f2 s).2.2 (by rw [← he0]) R hR).mono ?_
    rintro e w' ⟨v,rfl,ho,hb⟩;exact ⟨v,rfl,strs_rep ho,hb⟩
 refine (key _ rfl).mono ?_;rintro e w' ⟨v,rfl,hv,hb⟩;refine ⟨writG (r1,r2,l) (alOf (f1,f2,f3)) (alOf (t1,t2,t3)) s,_,rfl,writG_eq _ _ _ _,⟨_,rfl,rfl,?_⟩,hb⟩;intro i x hx
 match i,hx with
 | 0,hx=>injection hx with hx;subst hx;exact ⟨_,rfl,hv⟩
 | 1,hx=>injection hx with hx;subst hx;exact ⟨_,rfl,rfl⟩
end Go.Proofs.YtlmbfijhkcmncaaGreatDoor
namespace Go.Proofs.YtlmbfijhkcmncaaGreatDoor
open Go.RowKit R
def consRm:List Con:=[cHead11,cFewA11,cWrit,gWrit,cTextR,gText,cParse,gParse,qhd,gValid,cTexts,cSame]
def cLRm:Con:=.of 3 [q0t,ckAl,ckAl,q3a,q3a] [ckB] (λp=>BigR p.1∧BigA p.2.1∧BigA p.2.2.1∧CK.Big q3a p.2.2.2.1∧CK.Big q3a p.2.2.2.2) (λ_=>true)
end Go.Proofs.YtlmbfijhkcmncaaGreatDoor

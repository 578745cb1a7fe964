/-
  Several texts in one: CoZB, CoT, CoZ, CoZC, CoZD, CoZE, CoV, CoHd, CoJ, HeR, HfA, HfB, HfC, HfL, HfD, HfF, HfG, HfH, RefBytes, RefName, SzAR, HfI, SzBR, SzCR, HfJ, HfE, HeS, HeT, HgA, HgC, HgD, R15N.
-/
import Derived.Test.YtfecgebhoondjaaGreatDoorPR
import Derived.Deep.QuietTactic
import Derived.Test.YtfecgebhoondjaaGreatDoorPP
import Derived.Test.YtfecgebhoondjaaGreatDoorPA
import Derived.Test.YtfecgebhoondjaaGreatDoorPQ
import Derived.Test.YtfecgebhoondjaaGreatDoorPM
import Derived.Test.YtfecgebhoondjaaGreatDoorPC
import Derived.Test.YtfecgebhoondjaaGreatDoorPK
import Derived.Test.YtfecgebhoondjaaGreatDoorPL
import Derived.OpenShut
set_option linter.unusedVariables false
namespace Go.Proofs.YtfecgebhoondjaaGreatDoor
open Go.RowKit Go.Lib Go.Sort R
theorem ints_put {w:World} {S:Nat→Prop} {blk:Nat} (hS:¬ S blk) (dk:Array (SV w S)) (m n:Nat) (q:SV w S):IntsIn ((putRow SV.enc (Sort.ahead w m) blk 0 dk).drewN n) (λ_=>True) q.A q.l.length q.l:=by
 refine ⟨rfl,λh=>?_⟩
 obtain ⟨g,off,e,hg,hs,hc⟩:=q.ok.2 h;have hne:g≠blk:=λe2=>hS (e2▸hs)
 have hsz:=qa0 (SV.enc (w:=w) (S:=S)) w blk 0 m dk #[];refine ⟨g,off,e,Nat.lt_of_lt_of_le hg (by simp only [sortWorld,grow_empty] at hsz;exact hsz),trivial,λj hj=>?_⟩
 have:=qi7 (SV.enc (w:=w) (S:=S)) w blk 0 m dk #[] (o:=off+j) hg hne
 unfold sortWorld at this;rw [grow_empty] at this;show (putRow SV.enc (Sort.ahead w m) blk 0 dk).cell? _=_;rw [this];exact hc j hj
theorem ints_drew {w:World} {S:Nat→Prop} (n:Nat) (q:SV w S):IntsIn (w.drewN n) S q.A q.l.length q.l:=⟨rfl,λh=>q.ok.2 h⟩
theorem thin_take (T:List (List Int)) (k:Nat) (h1:1≤k) (h:k<T.length):q0t (T.take (k+1))=if (T.getD (k-1) []==T.getD k [])=true then q0t (T.take k) else q0t (T.take k)++[T.getD k []]:=by
 obtain ⟨j,rfl⟩:∃ j,k=j+1:=⟨k-1,by omega⟩
 rw [Snd.q1f T [] (j+1) h,Snd.q1f T [] j (by omega),List.append_assoc]
 exact thin_snoc _ _ _
theorem getD_l {w:World} {S:Nat→Prop} (d:Array (SV w S)) (k:Nat) (h:k<d.size):(d.toList.map SV.l).getD k []=d[k]!.l:=by
 rw [List.getD_eq_getElem?_getD,List.getElem?_map,Array.getElem?_toList,Array.getElem?_eq_getElem h,getElem!_pos d k h];rfl
theorem qc7 {w:World} {S:Nat→Prop} (d:Array (SV w S)) (k:Nat) (h1:1≤k) (h:k<d.size):q0t ((d.toList.map SV.l).take (k+1))=if (d[k-1]!.l==d[k]!.l)=true then q0t ((d.toList.map SV.l).take k) else q0t ((d.toList.map SV.l).take k)++[d[k]!.l]:=by
 rw [thin_take _ k h1 (by rw [List.length_map,Array.length_toList];exact h),getD_l d k h,getD_l d (k-1) (by omega)]
theorem thin_one {w:World} {S:Nat→Prop} (d:Array (SV w S)) (k:Nat) (h:k≤1):q0t ((d.toList.map SV.l).take k)=(d.toList.map SV.l).take k:=by
 have:((d.toList.map SV.l).take k).length≤1:=by rw [List.length_take];omega
 generalize (d.toList.map SV.l).take k=T at this
 match T,this with
 | [],_=>rfl
 | [x],_=>rfl
theorem take_set_l {w:World} {S:Nat→Prop} (dk:Array (SV w S)) (kk:Nat) (u:SV w S) (h:kk<dk.size):((dk.setIfInBounds kk u).toList.take (kk+1)).map SV.l=(dk.toList.take kk).map SV.l++[u.l]:=by
 rw [Array.toList_setIfInBounds,List.take_set,List.take_succ_eq_append_getElem (by rw [Array.length_toList];exact h),List.set_append_right _ _ (by rw [List.length_take];omega),List.length_take]
 have e:kk-min kk dk.toList.length=0:=by rw [Array.length_toList];omega
 rw [e,List.map_append];rfl
theorem lay_size {α:Type} [Inhabited α]:∀ (xs:List α) (d:Array α) (k:Nat),(Lib.lay d k xs).size=d.size
 | [],_,_=>rfl
 | x::r,d,k=>by
  rw [Lib.lay,lay_size r];exact Array.size_setIfInBounds
theorem lay_head {α:Type} [Inhabited α] (xs:List α) (d:Array α) (k:Nat) (h:k+xs.length≤d.size):(Lib.lay d k xs).toList.take k=d.toList.take k:=by
 apply List.ext_getElem?
 intro i;rw [List.getElem?_take,List.getElem?_take];by_cases hi:i<k
 ·rw [if_pos hi,if_pos hi,Array.getElem?_toList,Array.getElem?_toList,Lib.lay_get? xs d k i h,if_neg (by omega)]
 ·rw [if_neg hi,if_neg hi]
set_option maxHeartbeats 4000000 in
set_option maxRecDepth 1000000 in
theorem compact_arr (w:World) (S:Nat→Prop) (blk cap:Nat) (d:Array (SV w S)) (hS:¬ S blk) (hH:Holds SV.enc w blk 0 d) (hsz:d.size≤1000000000) (hcap:d.size≤cap) :
  Calls Tryz.prog 68 #[.slice (some ⟨blk,0,none⟩) d.size cap,.func (.func 69) #[] #[]] w λe w' =>
   ∃ (q kk:Nat) (dk:Array (SV w S)),e=.returned (.slice (some ⟨blk,0,none⟩) kk cap)∧w'=putRow SV.enc (Sort.ahead w q) blk 0 dk∧dk.size=d.size∧kk≤d.size∧(dk.toList.take kk).map SV.l=q0t (d.toList.map SV.l):=by
 by_cases h2:d.size<2
 ·have HH:Aside (Holds SV.enc w blk 0 d):=hH
  have HS:Aside (¬ S blk):=hS;clear hH hS
  go_enter Tryz.func68,Tryz.ntmps68
  go_wp2
  go_ret
  refine ⟨0,d.size,d,rfl,(putRow_self SV.enc _ blk 0 d (holds_ahead SV.enc w 0 blk 0 d HH.out)).symm,rfl,Nat.le_refl _,?_⟩;rw [List.take_of_length_le (by rw [Array.length_toList];exact Nat.le_refl _)]
  have:=thin_one d d.size (by omega)
  rw [List.take_of_length_le (by rw [List.length_map,Array.length_toList];exact Nat.le_refl _)] at this
  exact this.symm
 ·go_enter Tryz.func68,Tryz.ntmps68
  have HS:Aside (¬ S blk):=hS;clear hS
  go_wp2
  go_loopg [5] d.size (λg s5 wr=>∃ k q:Nat,1≤k∧k≤d.size∧d.size-k≤g∧s5=.int .i64 k∧wr=w.drewN q∧q0t ((d.toList.map SV.l).take k)=(d.toList.map SV.l).take k)
  case atStart=>exact ⟨1,0,Nat.le_refl _,by omega,by omega,rfl,rfl,thin_one d 1 (Nat.le_refl _)⟩
  case round =>
   obtain ⟨k,q,hk1,hk,hg,rfl,rfl,hall⟩:=hrel;by_cases hlt:k<d.size
   ·obtain ⟨c1,f1⟩:=hH k hlt
    obtain ⟨c0,f0⟩:=hH (k-1) (by omega)
    have A:Aside (q0t ((d.toList.map SV.l).take k)=(d.toList.map SV.l).take k):=hall;have HH:Aside (Holds SV.enc w blk 0 d):=hH;clear hall hH;generalize hx:d[k]! = x at c1;generalize hy:d[k-1]! = y at c0;have B:Aside (d[k]! = x∧d[k-1]! = y):=⟨hx,hy⟩;clear hx hy;have call:∀ n,Calls Tryz.prog 69 #[.slice x.A x.l.length x.c,.slice y.A y.l.length y.c] (w.drewN (q+n)) λe w'=>e=.returned (.bool (x.l==y.l))∧∃ m,w'=w.drewN (q+m):=λn=>(equal_any x.small y.small (ints_drew (q+n) x) (ints_drew (q+n) y)).mono λe w' h=>by
     obtain ⟨he,m,hw⟩:=h;exact ⟨he,n+m,by rw [hw,World.drewN_drewN,Nat.add_assoc]⟩
    have c1:w.cell? ⟨blk,0+k,none⟩=some (.slice x.A x.l.length x.c):=c1;have c0:w.cell? ⟨blk,0+(k-1),none⟩=some (.slice y.A y.l.length y.c):=c0;rw [Nat.zero_add] at c1 c0;have wk:IntKind.i64.wrap ((k:Int)-1)=((k-1:Nat):Int):=by rw [IntKind.wrap_i64] <;> omega
    have pk:(((k-1:Nat):Int))<(d.size:Int):=by omega
    have pk0:(0:Int)≤((k-1:Nat):Int):=by omega
    by_cases hdup:x.l=y.l
    ·rw [show (x.l==y.l)=true from beq_iff_eq.2 hdup] at call
     have D:Aside (x.l=y.l):=hdup;clear hdup
     go_wp2_with fail
     go_quiet (exact call _)
     go_wp2
     clear c0 c1 f0 f1 call
     go_loopg [5,7] d.size (λg s5 s7 wr=>∃ (kk k2 q2:Nat) (dk:Array (SV w S)),s5=.int .i64 kk∧s7=.int .i64 k2∧1≤k2∧k+k2≤d.size∧d.size-(k+k2)≤g∧wr=putRow SV.enc (Sort.ahead w q2) blk 0 dk∧dk.size=d.size∧kk<k+k2∧(∀ j,kk≤j→dk[j]! = d[j]!)∧(dk.toList.take kk).map SV.l=q0t ((d.toList.map SV.l).take (k+k2)))
     case atStart =>
      refine ⟨k,1,q+nq,d,rfl,rfl,Nat.le_refl _,by omega,by omega,(putRow_self SV.enc (Sort.ahead w (q+nq)) blk 0 d (holds_ahead SV.enc w (q+nq) blk 0 d HH.out)).symm,rfl,by omega,λ_ _=>rfl,?_⟩
      rw [qc7 d k hk1 hlt,B.out.1,B.out.2,if_pos (beq_iff_eq.2 D.out.symm),A.out,List.map_take]
     case round =>
      obtain ⟨kk,k2,q2,dk,rfl,rfl,h1,hle,hg2,hwr,hds,hkk,hhigh,hthin⟩:=hrel;have hHk:Holds SV.enc wr blk 0 dk:=by rw [hwr];exact holds_putRow SV.enc _ blk 0 d dk (holds_ahead SV.enc w q2 blk 0 d HH.out) hds
      have W2:Aside (wr=putRow SV.enc (Sort.ahead w q2) blk 0 dk):=hwr;have I2:Aside (dk.size=d.size∧(∀ j,kk≤j→dk[j]! = d[j]!)∧(dk.toList.take kk).map SV.l=q0t ((d.toList.map SV.l).take (k+k2))):=⟨hds,hhigh,hthin⟩;clear hwr hthin;by_cases hlt2:k+k2<d.size
      ·obtain ⟨cm,_⟩:=hHk (k+k2) (by omega)
       obtain ⟨cp,_⟩:=hHk (k+k2-1) (by omega)
       obtain ⟨ck,fk⟩:=hHk kk (by omega)
       rw [hhigh (k+k2) (by omega),Nat.zero_add] at cm
       rw [hhigh (k+k2-1) (by omega),show 0+(k+k2-1)=k+(k2-1) by omega] at cp
       rw [Nat.zero_add] at ck fk;clear hHk hhigh hds;generalize hu:d[k+k2]! = u at cm;generalize hv:d[k+k2-1]! = v at cp;generalize dk[kk]! = old at ck;have C:Aside (d[k+k2]! = u∧d[k+k2-1]! = v):=⟨hu,hv⟩;clear hu hv
       change wr.cell? ⟨blk,k+k2,none⟩=some (.slice u.A u.l.length u.c) at cm
       change wr.cell? ⟨blk,k+(k2-1),none⟩=some (.slice v.A v.l.length v.c) at cp
       change wr.cell? ⟨blk,kk,none⟩=some (.slice old.A old.l.length old.c) at ck
       have call2:∀ n,Calls Tryz.prog 69 #[.slice u.A u.l.length u.c,.slice v.A v.l.length v.c] (wr.drewN n) λe w'=>e=.returned (.bool (u.l==v.l))∧∃ m,w'=wr.drewN m:=λn=>by
        have h:=equal_any (w:=wr.drewN n) (c:=u.c) (d:=v.c) u.small v.small (by rw [W2.out];exact ints_put HS.out dk q2 n u) (by rw [W2.out];exact ints_put HS.out dk q2 n v)
        refine h.mono λe w' h=>?_
        obtain ⟨he,m,hw⟩:=h;exact ⟨he,n+m,by rw [hw,World.drewN_drewN]⟩
       have wk2:IntKind.i64.wrap ((k2:Int)-1)=((k2-1:Nat):Int):=by rw [IntKind.wrap_i64] <;> omega
       have pk2:(((k2-1:Nat):Int))<((d.size-k:Nat):Int):=by omega
       have pk3:(0:Int)≤((k2-1:Nat):Int):=by omega
       have pk4:((k2:Nat):Int)<((d.size-k:Nat):Int):=by omega
       by_cases huv:u.l=v.l
       ·rw [show (u.l==v.l)=true from beq_iff_eq.2 huv] at call2
        have E:Aside (u.l=v.l):=huv;clear huv
        go_wp2_with fail
        go_quiet (exact call2 _)
        go_wp2
        go_roundg (d.size-(k+(k2+1)))
        case measure=>omega
        case rel =>
         refine ⟨kk,k2+1,q2+nq,dk,rfl,by go_num,by omega,by omega,Nat.le_refl _,?_,I2.out.1,by omega,I2.out.2.1,?_⟩
         ·rw [W2.out,putRow_drewN]
         ·rw [I2.out.2.2,show k+(k2+1)=k+k2+1 by omega,qc7 d (k+k2) (by omega) hlt2,C.out.1,C.out.2,if_pos (beq_iff_eq.2 E.out.symm)]
       ·rw [show (u.l==v.l)=false from beq_eq_false_iff_ne.2 huv] at call2
        have F:Aside (¬ u.l=v.l):=huv;clear huv
        go_wp2_with fail
        go_quiet (exact call2 _)
        go_wp2
        go_roundg (d.size-(k+(k2+1)))
        case measure=>omega
        case rel =>
         refine ⟨kk+1,k2+1,q2+nq,dk.setIfInBounds kk u,by go_num,by go_num,by omega,by omega,Nat.le_refl _,?_,by rw [Array.size_setIfInBounds];exact I2.out.1,by omega,?_,?_⟩
         ·have hset:=putRow_set SV.enc (Sort.ahead w (q2+nq)) blk 0 dk kk u (by rw [I2.out.1];omega)
          rw [Nat.zero_add] at hset;rw [W2.out,putRow_drewN];exact hset
         ·intro j hj
          rw [getElem!_set_other dk kk j _ (by omega),I2.out.2.1 j (by omega)]
         ·rw [take_set_l dk kk u (by rw [I2.out.1];omega),I2.out.2.2,show k+(k2+1)=k+k2+1 by omega,qc7 d (k+k2) (by omega) hlt2,C.out.1,C.out.2,if_neg (λe=>F.out (beq_iff_eq.1 e).symm)]
      ·have hend:k+k2=d.size:=by omega
       have hcl:∀ ty,(Builtin.clear_ #[50] ty #[.slice (some ⟨blk,kk,none⟩) (d.size-kk) (cap-kk)]).run Tryz.prog wr=.ok (.tuple #[]) (wr.setCells blk kk (List.replicate (d.size-kk) (.slice none 0 0))) :=
        λty=>Lib.run_clear_slice wr _ 40 ty _ (by kernel_rfl) (λ_=>rfl) rfl rfl blk kk _ _ (by omega) (λj hj=>by have:=(hHk (kk+j) (by omega)).1;rw [Nat.zero_add] at this;rw [this];rfl) (λj hj=>by have:=(hHk (kk+j) (by omega)).2;rwa [Nat.zero_add] at this)
       clear hHk hhigh hds
       go_wp2
       go_ret
       have hth:=I2.out.2.2;have hT:(d.toList.map SV.l).take d.size=d.toList.map SV.l:=List.take_of_length_le (by rw [List.length_map,Array.length_toList];exact Nat.le_refl _)
       rw [hend,hT] at hth;have hsz1:=I2.out.1;have hlay:kk+(List.replicate (d.size-kk) (default:SV w S)).length≤dk.size:=by rw [List.length_replicate];omega
       have hset:=Lib.putRow_setCells SV.enc (Sort.ahead w q2) blk 0 (List.replicate (d.size-kk) (default:SV w S)) dk kk hlay;rw [Nat.zero_add,List.map_replicate] at hset;refine ⟨q2,kk,Lib.lay dk kk (List.replicate (d.size-kk) default),rfl,?_,by rw [lay_size];exact hsz1,by omega,?_⟩
       ·rw [W2.out]
        exact hset
       ·rw [lay_head _ _ _ hlay]
        exact hth
    ·rw [show (x.l==y.l)=false from beq_eq_false_iff_ne.2 hdup] at call
     go_wp2_with fail
     go_quiet (exact call _)
     go_wp2
     go_roundg (d.size-(k+1))
     case measure=>omega
     case rel =>
      refine ⟨k+1,q+nq,by omega,by omega,Nat.le_refl _,by go_num,rfl,?_⟩
      rw [qc7 d k hk1 hlt,B.out.1,B.out.2,if_neg (λe=>hdup (beq_iff_eq.1 e).symm),A.out,Snd.q1f (d.toList.map SV.l) [] k (by rw [List.length_map,Array.length_toList];exact hlt),getD_l d k hlt,B.out.1]
   ·have:k=d.size:=by omega
    subst this;have HH:Aside (Holds SV.enc w blk 0 d):=hH;clear hH
    go_wp2
    go_ret
    refine ⟨q,d.size,d,rfl,(putRow_self SV.enc _ blk 0 d (holds_ahead SV.enc w q blk 0 d HH.out)).symm,rfl,Nat.le_refl _,?_⟩;rw [List.take_of_length_le (by rw [List.length_map,Array.length_toList];exact Nat.le_refl _)] at hall
    rw [List.take_of_length_le (by rw [Array.length_toList];exact Nat.le_refl _)]
    exact hall.symm
end Go.Proofs.YtfecgebhoondjaaGreatDoor
namespace Go.Proofs.YtfecgebhoondjaaGreatDoor
open Go.RowKit R
abbrev q3y (e:Cod.Ear):Prop :=
 ((e.lang=e.lang∧e.ws=e.ws∧True∧e.c=e.c∧True)∧(e.lang=e.lang∧e.ws=e.ws∧True)∧True)
abbrev q57 (code:List Int) (e:Cod.Ear):Prop :=
 ((True∧True)∧(True∧True)∧(code=code∧True)∧(e.lang=e.lang∧e.ws=e.ws∧True∧e.c=e.c∧True)∧True)
abbrev zCoT0_2 (code:List Int) (e:Cod.Ear) (p:Nat×q04×List (List Int)) (p':Nat×List (List Int)) (p_2:Nat×List (List Int)):Prop :=
 ((p_2.1:Int)+1=(p'.1:Int)∧True∧True∧True∧True∧(p.1:Int)=(p.1:Int)∧code.getD (p.1:Int).toNat (0:Int)=code.getD (p.1:Int).toNat (0:Int)∧code=code∧(code.length:Int)=(code.length:Int)∧(p.1:Int)=(p.1:Int)∧e.near (code.getD (p.1:Int).toNat (0:Int))=e.near (code.getD (p.1:Int).toNat (0:Int))∧(↑(e.near (code.getD (p.1:Int).toNat (0:Int))).length:Int)=(↑(e.near (code.getD (p.1:Int).toNat (0:Int))).length:Int)∧True)
abbrev q9e (code:List Int) (e:Cod.Ear):Prop :=
 (True∧Snd.q0l e.c=(Snd.q0h e.lang e.ws&&Snd.q0l e.c)∧code=code∧True∧True)
abbrev q9a (code:List Int) (e:Cod.Ear):Prop :=
 (True∧false=(Snd.q0h e.lang e.ws&&Snd.q0l e.c)∧code=code∧True∧True)
abbrev zCoT0_5 (code:List Int) (p:Nat×q04×List (List Int)):Prop :=
 (True∧True∧True∧True∧(p.1:Int)=(p.1:Int)∧code.getD (p.1:Int).toNat (0:Int)=code.getD (p.1:Int).toNat (0:Int)∧code=code∧(code.length:Int)=(code.length:Int)∧(p.1:Int)=(p.1:Int)∧True∧True∧True∧True∧True∧True∧True)
abbrev qgr (code:List Int) (p:Nat×q04×List (List Int)) (p':Nat×q04×List (List Int)):Prop :=
 ((p.1:Int)+1=(p'.1:Int)∧True∧True∧True∧True∧code=code∧(code.length:Int)=(code.length:Int)∧True)
set_option maxRecDepth 100000 in
theorem mist_vc (e:Cod.Ear) (code:List Int) (h:cMist.pre ((e.lang,e.ws),e.c,code)) :
  (((q0y (e.lang,e.ws)∧bif Snd.q0h e.lang e.ws then q0o e.c∧∃ (p':Unit),True∧(q9e code e)∧(q3y e)∧True∧True∧(([]:q04)=[]∧True)∧True∧True∧True∧True∧True else ∃ (p':Unit),True∧(q9a code e)∧(q3y e)∧True∧True∧(([]:q04)=[]∧True)∧True∧True∧True∧True∧True)∧q0y (e.lang,e.ws)∧bif Snd.q0h e.lang e.ws then (q0o e.c∧∃ (p':Unit),True∧(q9e code e)∧(q3y e)∧True∧True∧(([]:q04)=[]∧True)∧True∧True∧True∧True∧True)∧q0o e.c∧∃ (p':Unit),True∧(q9e code e)∧(q3y e)∧True∧True∧(([]:q04)=[]∧True)∧True∧True∧True∧True∧True else (∃ (p':Unit),True∧(q9a code e)∧(q3y e)∧True∧True∧(([]:q04)=[]∧True)∧True∧True∧True∧True∧True)∧∃ (p':Unit),True∧(q9a code e)∧(q3y e)∧True∧True∧(([]:q04)=[]∧True)∧True∧True∧True∧True∧True)∧q0y (e.lang,e.ws)∧bif Snd.q0h e.lang e.ws then ((q0o e.c∧∃ (p':Unit),True∧(q9e code e)∧(q3y e)∧True∧True∧(([]:q04)=[]∧True)∧True∧True∧True∧True∧True)∧q0o e.c∧∃ (p':Unit),True∧(q9e code e)∧(q3y e)∧True∧True∧(([]:q04)=[]∧True)∧True∧True∧True∧True∧True)∧q0o e.c∧∃ (p':Unit),True∧(q9e code e)∧(q3y e)∧True∧True∧(([]:q04)=[]∧True)∧True∧True∧True∧True∧True else ((∃ (p':Unit),True∧(q9a code e)∧(q3y e)∧True∧True∧(([]:q04)=[]∧True)∧True∧True∧True∧True∧True)∧∃ (p':Unit),True∧(q9a code e)∧(q3y e)∧True∧True∧(([]:q04)=[]∧True)∧True∧True∧True∧True∧True)∧∃ (p':Unit),True∧(q9a code e)∧(q3y e)∧True∧True∧(([]:q04)=[]∧True)∧True∧True∧True∧True∧True)∧∀ (p:Unit),True→bif !(Snd.q0h e.lang e.ws&&Snd.q0l e.c) then ([],(1:Int))=e.q0v code else (q0y (e.lang,e.ws)∧code.length≤(1000000:Nat))∧bif !Cod.q1q e.lang e.ws code then ([],(1:Int))=e.q0v code else (∃ (p':Nat×q04×List (List Int)),(p'.1≤code.length∧q0q e p'.2.1∧p'.2.2=e.q0k code p'.1 (0:Nat))∧((0:Int)=(p'.1:Int)∧True∧True∧True∧True∧code=code∧(code.length:Int)=(code.length:Int)∧True)∧(q57 code e)∧(p'.2.2=[]∧True)∧True∧([]=p'.2.1∧True)∧(True∧True∧True)∧True∧True∧True∧True∧(True∧True)∧True)∧∀ (p:Nat×q04×List (List Int)),p.1≤code.length∧q0q e p.2.1∧p.2.2=e.q0k code p.1 (0:Nat)→bif decide ((p.1:Int)<(code.length:Int)) then (0≤(p.1:Int)∧(p.1:Int)<(code.length:Int))∧(bif !(Mp.get (λ(x x_1:Int)=>x==x_1) (code.getD (p.1:Int).toNat (0:Int)) p.2.1).isSome then ((0:Int)≤code.getD (p.1:Int).toNat (0:Int)∧code.getD (p.1:Int).toNat 0<(e.ws.length:Int))∧(q0y (e.lang,e.ws)∧q0o e.c∧(e.ws.getD (code.getD (p.1:Int).toNat (0:Int)).toNat []).length≤(1000000:Nat))∧∃ (p':q04),q0q e p'∧((Snd.q37 e.lang e.ws e.c (e.ws.getD (code.getD (p.1:Int).toNat (0:Int)).toNat [])).1=e.near (code.getD (p.1:Int).toNat (0:Int))∧True)∧(q57 code e)∧(p.2.2=p.2.2∧True)∧True∧(Mp.put (λ(x x_1:Int)=>x==x_1) (code.getD (p.1:Int).toNat (0:Int)) (Snd.q37 e.lang e.ws e.c (e.ws.getD (code.getD (p.1:Int).toNat (0:Int)).toNat [])).1 p.2.1=p'∧True)∧(zCoT0_5 code p)∧True∧True∧True∧True∧(True∧True)∧True else ∃ (p':q04),q0q e p'∧((Mp.get (λ(x x_1:Int)=>x==x_1) (code.getD (p.1:Int).toNat (0:Int)) p.2.1).getD []=e.near (code.getD (p.1:Int).toNat (0:Int))∧True)∧(q57 code e)∧(p.2.2=p.2.2∧True)∧True∧(p.2.1=p'∧True)∧(zCoT0_5 code p)∧True∧True∧True∧True∧(True∧True)∧True)∧∀ (p_1:q04),q0q e p_1→(∃ (p':Nat×List (List Int)),(p'.1≤(e.near (code.getD (p.1:Int).toNat (0:Int))).length∧p'.2=p.2.2++q1r e code (p.1:Int).toNat p'.1)∧((0:Int)=(p'.1:Int)∧True∧True∧True∧True∧(p.1:Int)=(p.1:Int)∧code.getD (p.1:Int).toNat (0:Int)=code.getD (p.1:Int).toNat (0:Int)∧code=code∧(code.length:Int)=(code.length:Int)∧(p.1:Int)=(p.1:Int)∧e.near (code.getD (p.1:Int).toNat (0:Int))=e.near (code.getD (p.1:Int).toNat (0:Int))∧(↑(e.near (code.getD (p.1:Int).toNat (0:Int))).length:Int)=(↑(e.near (code.getD (p.1:Int).toNat (0:Int))).length:Int)∧True)∧(q57 code e)∧(p.2.2=p'.2∧True)∧True∧(p_1=p_1∧True)∧(True∧True∧True)∧True∧True∧True∧True∧(True∧True)∧True)∧∀ (p_2:Nat×List (List Int)),p_2.1≤(e.near (code.getD (p.1:Int).toNat (0:Int))).length∧p_2.2=p.2.2++q1r e code (p.1:Int).toNat p_2.1→bif decide ((p_2.1:Int)<(↑(e.near (code.getD (p.1:Int).toNat (0:Int))).length:Int)) then (0≤(p_2.1:Int)∧(p_2.1:Int)<(↑(e.near (code.getD (p.1:Int).toNat (0:Int))).length:Int))∧bif (e.near (code.getD (p.1:Int).toNat (0:Int))).getD (p_2.1:Int).toNat (0:Int) != code.getD (p.1:Int).toNat (0:Int) then code.length≤(1000000:Nat)∧(0≤(p.1:Int)∧(p.1:Int)<(code.length:Int))∧bif (p.1:Int).toNat.beq (p.1:Int).toNat then (p_2.2.length+[code.set (p.1:Int).toNat ((e.near (code.getD (p.1:Int).toNat (0:Int))).getD (p_2.1:Int).toNat (0:Int))].length)*(24:Nat)≤(140737488355328:Nat)∧(zFit ((p_2.1:Int)+1))∧∃ (p':Nat×List (List Int)),(p'.1≤(e.near (code.getD (p.1:Int).toNat (0:Int))).length∧p'.2=p.2.2++q1r e code (p.1:Int).toNat p'.1)∧(e.near (code.getD (p.1:Int).toNat (0:Int))).length-p'.1<(e.near (code.getD (p.1:Int).toNat (0:Int))).length-p_2.1∧(zCoT0_2 code e p p' p_2)∧(q57 code e)∧(p_2.2++[code.set (p.1:Int).toNat ((e.near (code.getD (p.1:Int).toNat (0:Int))).getD (p_2.1:Int).toNat (0:Int))]=p'.2∧True)∧True∧(p_1=p_1∧True)∧(True∧True∧True)∧True∧True∧True∧True∧(True∧True)∧True else False else (zFit ((p_2.1:Int)+1))∧∃ (p':Nat×List (List Int)),(p'.1≤(e.near (code.getD (p.1:Int).toNat (0:Int))).length∧p'.2=p.2.2++q1r e code (p.1:Int).toNat p'.1)∧(e.near (code.getD (p.1:Int).toNat (0:Int))).length-p'.1<(e.near (code.getD (p.1:Int).toNat (0:Int))).length-p_2.1∧(zCoT0_2 code e p p' p_2)∧(q57 code e)∧(p_2.2=p'.2∧True)∧True∧(p_1=p_1∧True)∧(True∧True∧True)∧True∧True∧True∧True∧(True∧True)∧True else (code.length≤(1000000:Nat)∧(zFit ((p.1:Int)+1))∧((p.1:Int)+1=(p.1:Int)+1∧0≤(p.1:Int)∧(p.1:Int)<(code.length:Int))∧(p_2.2.length+[code.eraseIdx (p.1:Int).toNat].length)*(24:Nat)≤(140737488355328:Nat)∧∃ (p':List (List Int)),p'=p_2.2++[code.eraseIdx (p.1:Int).toNat]∧(True∧True∧True∧True∧(p.1:Int)=(p.1:Int)∧code.getD (p.1:Int).toNat (0:Int)=code.getD (p.1:Int).toNat (0:Int)∧code=code∧(code.length:Int)=(code.length:Int)∧(p.1:Int)=(p.1:Int)∧True)∧(q57 code e)∧(p_2.2++[code.eraseIdx (p.1:Int).toNat]=p'∧True)∧True∧(p_1=p_1∧True)∧(True∧True∧True)∧True∧True∧True∧True∧(True∧True)∧True)∧∀ (p_3:List (List Int)),p_3=p_2.2++[code.eraseIdx (p.1:Int).toNat]→bif (p.1:Int)==(0:Int) then (zFit ((p.1:Int)+1))∧∃ (p':Nat×q04×List (List Int)),(p'.1≤code.length∧q0q e p'.2.1∧p'.2.2=e.q0k code p'.1 (0:Nat))∧code.length-p'.1<code.length-p.1∧(qgr code p p')∧(q57 code e)∧(p_3=p'.2.2∧True)∧True∧(p_1=p'.2.1∧True)∧(True∧True∧True)∧True∧True∧True∧True∧(True∧True)∧True else (zFit ((p.1:Int)-1))∧(0≤(p.1:Int)-1∧(p.1:Int)-1<(code.length:Int))∧bif code.getD ((p.1:Int)-1).toNat (0:Int)==code.getD (p.1:Int).toNat (0:Int) then (zFit ((p.1:Int)+1))∧∃ (p':Nat×q04×List (List Int)),(p'.1≤code.length∧q0q e p'.2.1∧p'.2.2=e.q0k code p'.1 (0:Nat))∧code.length-p'.1<code.length-p.1∧(qgr code p p')∧(q57 code e)∧(p_3=p'.2.2∧True)∧True∧(p_1=p'.2.1∧True)∧(True∧True∧True)∧True∧True∧True∧True∧(True∧True)∧True else (zFit ((p.1:Int)-1))∧(0≤(p.1:Int)-1∧(p.1:Int)-1<(code.length:Int))∧code.length≤(1000000:Nat)∧(0≤(p.1:Int)∧(p.1:Int)<(code.length:Int))∧bif (p.1:Int).toNat.beq (p.1:Int).toNat then (zFit ((p.1:Int)-1))∧(0≤(p.1:Int)-1∧(p.1:Int)-1<(↑(code.set (p.1:Int).toNat (code.getD ((p.1:Int)-1).toNat (0:Int))).length:Int))∧bif ((p.1:Int)-1).toNat.beq ((p.1:Int)-1).toNat then (p_3.length+[(code.set (p.1:Int).toNat (code.getD ((p.1:Int)-1).toNat (0:Int))).set ((p.1:Int)-1).toNat (code.getD (p.1:Int).toNat (0:Int))].length)*(24:Nat)≤(140737488355328:Nat)∧(zFit ((p.1:Int)+1))∧∃ (p':Nat×q04×List (List Int)),(p'.1≤code.length∧q0q e p'.2.1∧p'.2.2=e.q0k code p'.1 (0:Nat))∧code.length-p'.1<code.length-p.1∧(qgr code p p')∧(q57 code e)∧(p_3++[(code.set (p.1:Int).toNat (code.getD ((p.1:Int)-1).toNat (0:Int))).set ((p.1:Int)-1).toNat (code.getD (p.1:Int).toNat (0:Int))]=p'.2.2∧True)∧True∧(p_1=p'.2.1∧True)∧(True∧True∧True)∧True∧True∧True∧True∧(True∧True)∧True else False else False else LongX p.2.2∧LongX (ordL p.2.2)∧(q0t (ordL p.2.2),(0:Int))=e.q0v code:=by
 delta q3y q57 zCoT0_2 q9e q9a zCoT0_5 qgr zFit
 obtain ⟨hW,hC,h1⟩:=h;have hW:q0y (e.lang,e.ws):=hW;have hC:q0o e.c:=hC;have h1:code.length≤1000000:=h1;have ok:e.ok=(Snd.q0h e.lang e.ws&&Snd.q0l e.c):=rfl;have no:(e.ok&&Cod.q1q e.lang e.ws code)=false→([],(1:Int))=e.q0v code:=λh=>by unfold Cod.Ear.q0v;rw [h];rfl
 simp only [true_and,and_true,eq_self,and_self,Nat.beq_refl,Bool.and_self,Bool.true_and,cond_true,Int.toNat_natCast,forall_const,exists_const,true_implies];refine ⟨?_,?_⟩
 ·clear ok no
  generalize Snd.q0h e.lang e.ws=v at *
  generalize Snd.q0l e.c=q at *
  cases v <;> cases q <;> simp [hW,hC]
 rw [← ok];refine bifP (λhok=>no (by rw [q9x hok];rfl)) λhok=>?_
 have hok:=q6o hok;refine ⟨⟨hW,h1⟩,bifP (λhcd=>no (by rw [q9x hcd,Bool.and_false])) λhcd=>?_⟩
 have hcd:=q6o hcd;obtain ⟨⟨hg3,hg5⟩,hin⟩:=code_in hcd;have hws:e.ws.length≤1000000:=hW.2.1;refine ⟨⟨(0,[],[]),⟨Nat.zero_le _,qk4 e,rfl⟩,by and_intros <;> rfl⟩,?_⟩
 rintro ⟨k,nr,out⟩ ⟨hkl,hn,ho⟩;dsimp only at *
 subst ho;have hfl:=qg2 e code hws k;refine bifP (λhkl=>?_) λhkl=>?_
 rotate_left
 ·have hkl:=of_decide_eq_false hkl
  have hkk:k=code.length:=by omega
  have hsm:∀ x∈e.q0k code k 0,x.length≤1000000:=λx hx=>by
   rw [hkk] at hx;have:=Cod.qjf (e:=e) (code:=code) hx;omega
  refine ⟨⟨by omega,hsm⟩,⟨by rw [ord_len];omega,λx hx=>hsm x (ord_mem.1 hx)⟩,?_⟩
  rw [thin_ord];unfold Cod.Ear.q0v;rw [hok,hcd,hkk];rfl
 have hkl:k<code.length:=by have:=of_decide_eq_true hkl;omega
 obtain ⟨hw0,hw1⟩:=hin k hkl;refine ⟨⟨by omega,by omega⟩,qe8 hn hW hC hw0 hw1,?_⟩
 intro nr hn;have hnl:(e.near (code.getD k 0)).length≤1000000:=Nat.le_trans (qdw e _) hW.2.1;refine ⟨⟨(0,e.q0k code k 0),⟨Nat.zero_le _,(List.append_nil _).symm⟩,by and_intros <;> rfl⟩,?_⟩
 rintro ⟨q,out⟩ ⟨hql,ho⟩;dsimp only at *
 subst ho;have hpl:=part_len e code k q hws;refine bifP (λhq=>?_) λhq=>?_
 ·have hq:q<(e.near (code.getD k 0)).length:=by have:=of_decide_eq_true hq;omega
  refine ⟨⟨by omega,by omega⟩,bifP (λhne=>?_) λhne=>?_⟩
  ·refine ⟨by omega,⟨by omega,by omega⟩,by rw [List.length_append,List.length_singleton];omega,⟨by omega,by omega⟩,(q+1,_),⟨by omega,?_⟩,by omega,by and_intros <;> first | rfl | omega⟩
   rw [q68 hq,if_pos hne,List.append_assoc]
  ·refine ⟨⟨by omega,by omega⟩,(q+1,_),⟨by omega,?_⟩,by omega,by and_intros <;> first | rfl | omega⟩
   rw [q68 hq,if_neg (by rw [hne];decide),List.append_nil]
 have hq:=of_decide_eq_false hq;have full:=qck (e:=e) (code:=code) (i:=k) (k:=q) (by omega)
 simp only [show ((k:Int)-1).toNat=k-1 by omega]
 refine ⟨⟨by omega,⟨by omega,by omega⟩,⟨by omega,by omega⟩,by rw [List.length_append,List.length_singleton];omega,_,rfl,rfl⟩,?_⟩
 rintro out ho;subst ho;have next1:(k=0∨code.getD (k-1) 0=code.getD k 0)→e.q0k code k 0++q1r e code k q++[code.eraseIdx k]=e.q0k code (k+1) 0:=λh=>by
  rw [q5n,full,if_pos h,List.append_assoc]
 refine bifP (λh0=>⟨⟨by omega,by omega⟩,(k+1,nr,_),⟨by omega,hn,next1 (.inl (by have:=beq_iff_eq.1 h0;omega))⟩,by omega,by and_intros <;> first | rfl | omega⟩) λh0=>?_
 have h0:k≠0:=by have:=beq_eq_false_iff_ne.1 h0;omega
 refine ⟨⟨by omega,by omega⟩,⟨by omega,by omega⟩,bifP (λh1=>⟨⟨by omega,by omega⟩,(k+1,nr,_),⟨by omega,hn,next1 (.inr (beq_iff_eq.1 h1))⟩,by omega,by and_intros <;> first | rfl | omega⟩) λh1=>?_⟩
 have h1:code.getD (k-1) 0≠code.getD k 0:=beq_eq_false_iff_ne.1 h1;refine ⟨⟨by omega,by omega⟩,⟨by omega,by omega⟩,by omega,⟨by omega,by omega⟩,⟨by omega,by omega⟩,⟨by omega,by rw [List.length_set];omega⟩,by simp only [List.length_append,List.length_singleton];omega,⟨by omega,by omega⟩,(k+1,nr,_),⟨by omega,hn,?_⟩,by omega,by and_intros <;> first | rfl | omega⟩
 rw [q5n,full,if_neg (λh=>h.elim h0 h1)]
 show _++[Cod.swapAt code k]=_;simp only [List.append_assoc,List.cons_append,List.nil_append]
theorem kitMi_ok (hc:oCompL.Holds Tryz.prog):kitMi.Ok Tryz.prog where
 cons:=all_cons qfp (all_cons q9z (all_cons qgm (all_cons qk1 all_nil)))
 ns:=all_cons qi6 all_nil
 os:=all_cons qg4 (all_cons sortL_holds (all_cons hc all_nil))
 fcs:=all_nil
 rcs:=all_nil
 inls:=q0e.more Tryz.func64 (by kernel_rfl) (by kernel_rfl) (q0e.more Tryz.func66 (by kernel_rfl) (by kernel_rfl) (q0e.more Tryz.func117 (by kernel_rfl) (by kernel_rfl) (q0e.more Tryz.func118 (by kernel_rfl) (by kernel_rfl) (q0e.more Tryz.func120 (by kernel_rfl) (by kernel_rfl)
  (q0e.more Tryz.func65 (by kernel_rfl) (by kernel_rfl) (q0e.more Tryz.func115 (by kernel_rfl) (by kernel_rfl) (q0e.more Tryz.func149 (by kernel_rfl) (by kernel_rfl) q0e.nil)))))))
set_option maxRecDepth 100000000 in
theorem mist_holds (hc:oCompL.Holds Tryz.prog):cMist.Holds Tryz.prog:=by
 refine holdsX (T:=kitMi) (λp=>anMi ⟨p.1.1,p.1.2,p.2.1⟩ p.2.2) Tryz.func32 (by kernel_rfl) (by kernel_rfl) mixed (by kernel_rfl) (kitMi_ok hc) (λp=>anMist ⟨p.1.1,p.1.2,p.2.1⟩) λp hp=>?_
 obtain ⟨⟨lang,ws⟩,c,code⟩:=p;refine cast ?_ (mist_vc ⟨lang,ws,c⟩ code hp)
 kernel_rfl
open Go.Lib Go.Sort
set_option maxRecDepth 100000 in
theorem compact_none (w:World):Calls Tryz.prog 68 #[.slice none 0 0,.func (.func 69) #[] #[]] w λe w'=>e=.returned (.slice none 0 0)∧w'=w:=by
 go_enter Tryz.func68,Tryz.ntmps68
 go_wp2
 go_ret
 exact ⟨rfl,rfl⟩
theorem compL_holds:oCompL.Holds Tryz.prog:=by
 refine ⟨⟨_,Tryz.func68,by kernel_rfl,by kernel_rfl⟩,λxs p b v cells vs fvs w n0 S hn0 hS hvS hown hcells hpre hvs hfa _=>?_⟩
 have hfa:fvs=[.func (.func 69) #[] #[]]:=hfa;subst hfa;obtain ⟨xs,rfl⟩:∃ q:List (List Int),q=xs:=⟨xs,rfl⟩;obtain ⟨hp1,hp2⟩:=hpre;have hp1:xs.length≤1000000000:=hp1;have hp2:∀ x∈xs,x.length≤1000000:=hp2;have hvs2:vs=[]:=List.eq_nil_of_length_eq_zero hvs.1;subst hvs2;have hown1:w.ownsRow n0 40 1 v xs.length cells:=hown;have hcl:cells.length=xs.length:=by have:=hown1.1;omega
 obtain ⟨ds,hd1,hd2⟩:=svs_of (w:=w) (S:=S) hcl λi x hx=>by
  obtain ⟨u,hu,hr⟩:=hcells i x hx 0 ⟨Kd.sl (.one (.int .i64)),x⟩ rfl;have e:i*oCompL.fs.size+0=i:=by show i*1+0=i;omega
  rw [e] at hu;have hm:=hp2 x (List.mem_of_getElem? hx);exact ⟨u,hu,sv_of hr (by omega)⟩
 have hdl:ds.length=xs.length:=by rw [← hd2,List.length_map]
 by_cases hnil:v=.slice none 0 0
 ·subst hnil
  have h0:xs.length=0:=by
   rcases hown1.2 with ⟨_,h0⟩ | ⟨g,cap,cur,h,_⟩
   ·exact h0
   ·cases h
  have hxs:=List.eq_nil_of_length_eq_zero h0;subst hxs;refine (compact_none w).mono ?_;rintro e w' ⟨rfl,rfl⟩;exact ⟨⟨rfl,rfl,rfl,Nat.le_refl _,λ_ _ _=>rfl⟩,_,cells,rfl,hown1,hcells,(λ_ g hg=>.inl hg),λh=>by cases h⟩
 ·rw [← hd1] at hown1
  obtain ⟨g,cap,rfl,hg1,hg2,hc1,hc2,_,hH⟩:=Lib.holds_of_ownsRow hown1 hnil;have hSg:¬ S g:=hvS g rfl;have hsz:ds.toArray.size=xs.length:=hdl;have hcomp:=compact_arr w S g cap ds.toArray hSg hH (by omega) (by omega)
  rw [hsz] at hcomp;refine hcomp.mono ?_;rintro e w' ⟨q,kk,dk,rfl,rfl,hsz2,hkk,hthin⟩;have hdkl:dk.toList.length=xs.length:=by rw [Array.length_toList];omega
  have hl:q0t (ds.map SV.l)=q0t xs:=by rw [hd2]
  have hthin:(dk.toList.take kk).map SV.l=q0t xs:=hthin.trans hl;have hrow:=ownsRow_putRow (q:=q) (k:=kk) (ys:=dk.toList) hown1 hdkl hkk;have hlen:(q0t xs).length=kk:=by rw [← hthin,List.length_map,List.length_take,hdkl];omega
  refine ⟨?_,_,(dk.toList.take kk).map SV.enc,rfl,?_,?_,(λ_ g' hg'=>.inl hg'),λh=>by cases h⟩
  ·have hb:∀ k,k<w.heap.size→k≠g→(sortWorld (SV.enc (w:=w) (S:=S)) w g 0 q dk #[]).heap[k]? = w.heap[k]? := λk hk hne=>heap_sorted _ _ _ _ _ _ _ hk hne
   have hs:=qa0 (SV.enc (w:=w) (S:=S)) w g 0 q dk #[];unfold sortWorld at hb hs;rw [grow_empty] at hb hs;exact ⟨rfl,rfl,rfl,hs,λk hk hne=>hb k hk (λe=>hne (by rw [e];rfl))⟩
  ·show World.ownsRow _ _ _ _ _ (q0t xs).length _
   rw [hlen];exact hrow
  ·show q0c (Cx.of S) _ kIs (q0t xs) _
   rw [← hthin];exact sv_row _
theorem mist41_holds:cMist.Holds Tryz.prog:=mist_holds compL_holds
end Go.Proofs.YtfecgebhoondjaaGreatDoor
namespace Go.Proofs.YtfecgebhoondjaaGreatDoor
open Go.RowKit R
abbrev ckU8:CK:=.one (.int .u8)
theorem few_out41 {lang:List UInt8} {ws:List (List UInt8)} {c:CfP} {book:q0d} {m:Int} (h:q63 (lang,ws) c book m=true):q0y (lang,ws)∧q0o c∧(∀ g∈book,g.2.1.length≤8∧g.1.length≤60)∧(book.length:Int)≤m∧ws.length≤8:=by
 unfold q63 q77 q6r at h;simp only [Bool.and_eq_true,List.all_eq_true,decide_eq_true_eq] at h;obtain ⟨⟨h1,h2,h3⟩,⟨h4,h5⟩,h6,h7,h8,h9⟩:=h;exact ⟨⟨by show lang.length≤_;omega,by show ws.length≤_;omega,λs hs=>Nat.le_trans (h3 s hs) (by omega)⟩,⟨by omega,λx hx=>by have:=h5 x hx;omega⟩,h9,h8,h6⟩
theorem longB_of {book:q0d} {m:Int} (h:∀ g∈book,g.2.1.length≤8∧g.1.length≤60) (hm:(book.length:Int)≤m) (hm2:m≤1000):q5k book:=⟨by omega,λg hg=>by have:=h g hg;omega⟩
theorem idx41 {k:Int} (hk:CK.Big ckU8 k) {n:Nat} (hn:0<n):∃ j:Nat,(IntKind.i64.wrap k).tmod (n:Int)=(j:Int)∧j<n:=by
 obtain ⟨h0,h1⟩:=bounds_u8 (show (Lit.int .u8 k).wf=true from hk);have hw:IntKind.i64.wrap k=k:=by
  unfold IntKind.wrap;have e:k % (2 ^ IntKind.i64.bits:Int)=k:=Int.emod_eq_of_lt h0 (by show k<(2:Int) ^ 64;omega)
  rw [e];have h2:¬ k ≥ (2 ^ (IntKind.i64.bits-1):Int):=by
   show ¬ k ≥ (2:Int) ^ 63;omega
  simp only [decide_eq_false h2,Bool.and_false];rfl
 rw [hw];have hK0:0≤k.tmod (n:Int):=Int.tmod_nonneg _ h0;have hK1:k.tmod (n:Int)<(n:Int):=Int.tmod_lt_of_pos _ (by omega)
 exact ⟨(k.tmod n).toNat,by omega,by omega⟩
theorem mistB_ok {e:Cod.Ear} {code:List Int} (h:e.ok=true) (hc:Cod.q1q e.lang e.ws code=true):e.q0v code=(Cod.q8c (e.miss code),0):=by
 unfold Cod.Ear.q0v;rw [h,hc];rfl
theorem mistB_proper {e:Cod.Ear} {book:q0d} (h:e.proper book=true) {i:Nat} (hi:i<book.length):e.q0v (book.getD i Cod.noG).2.1=(Cod.q8c (e.miss (book.getD i Cod.noG).2.1),0):=by
 obtain ⟨h1,_,h3,_⟩:=Cod.q6i.1 h;have:=h3 _ (Snd.q1d book Cod.noG i hi);unfold Cod.okG at this;simp only [Bool.and_eq_true] at this;exact mistB_ok h1 this.2.2
theorem any_eq_false {l:List (List Int)} {x:List Int} (h:x ∉ l):l.any (λy=>y==x)=false:=by
 rw [List.any_eq_false];intro y hy;rw [beq_iff_eq];rintro rfl;exact h hy
def q23 (ws:List (List UInt8)) (code:List Int):List UInt8:=if Cod.inB ws.length code then Cod.q2w ws code else []
def cText42:Con:=.of 48 [ckWl,qd8] [q3c] (λp=>q0y p.1∧List.length p.2≤1000) (λp=>q23 p.1.2 p.2)
def anText42 (ws:List (List UInt8)) (code:List Int):List (Nat×Ann) :=
 [annX 0 Nat (λst k=>st.hd { live:=[1,2],sav:=[],box:=[2] } [(5,str (Cod.q2w ws (code.take k))),(6,R.int .i64 k)] [] [] [] none)
  (λ_ k=>k≤code.length∧Cod.inB ws.length (code.take k)=true)
  (λ_ k=>code.length-k)]
def fewH (l:WlP) (c:CfP) (book:q0d) (text:List UInt8):Bool:=q63 l c book 8&&decide (text.length≤100)
def cFew42:Con:=.of 17 [ckWl,ckCf,q87,q3c] [q3d] (λ_=>True) (λp=>fewH p.1 p.2.1 p.2.2.1 p.2.2.2)
def bk42:q0d:=[([101,49],[0,0,3],false,0,0),([101,50],[1,3,0],false,0,0)]
def q1u:List (List UInt8):=[[98,97,100,32,98,97,100,32,115,101,97],[98,97,100,32,112,97,100,32,115,101,97],[98,97,100,32,115,101,97],[98,97,100,32,115,101,97,32,98,97,100],[115,101,97,32,98,97,110,32,98,97,100],[112,97,110,32,115,101,97,32,98,97,100]]
def q2y:List (List UInt8):=[[101,49],[101,49],[101,49],[101,49],[101,50],[101,50]]
def wd42:List (List UInt8):=[[98,97,100],[98,97,110],[112,97,110],[115,101,97]]
def cf42:CfP:=[([98],[112])]
def e42:Cod.Ear:=⟨[101,110],wd42,cf42⟩
def confRow (l:CfP):Row:=⟨72,kCf,l⟩
def cHead42:Con:=.of 16 [] [q3d] (λ_=>True) (λ_=>true)
def anHead42:List (Nat×Ann) :=
 [annX 0 Nat (λst k=>st.hd { live:=[1,2,3,5,6],sav:=[],box:=[1] } [(4,R.bool true),(7,R.int .i64 k)] [] [(20,q65 wd42),(23,confRow cf42),(28,qea bk42),(29,q65 q1u),(30,q65 q2y)] [] none)
  (λ_ k=>k≤6)
  (λ_ k=>6-k),
 qai 10]
theorem ex_hear0:Hea.q0w e42 bk42 (q1u.getD 0 [])=(q2y.getD 0 [],false,0):=by kernel_rfl
theorem ex_hear1:Hea.q0w e42 bk42 (q1u.getD 1 [])=(q2y.getD 1 [],true,0):=by kernel_rfl
theorem ex_hear2:Hea.q0w e42 bk42 (q1u.getD 2 [])=(q2y.getD 2 [],true,0):=by kernel_rfl
theorem ex_hear3:Hea.q0w e42 bk42 (q1u.getD 3 [])=(q2y.getD 3 [],true,0):=by kernel_rfl
theorem ex_hear4:Hea.q0w e42 bk42 (q1u.getD 4 [])=(q2y.getD 4 [],true,0):=by kernel_rfl
theorem ex_hear5:Hea.q0w e42 bk42 (q1u.getD 5 [])=(q2y.getD 5 [],true,0):=by kernel_rfl
theorem ex_hear {k:Nat} (hk:k<6):Hea.q0w e42 bk42 (q1u.getD k [])=(q2y.getD k [],decide ((0:Int)<(k:Int)),0):=by
 match k with
 | 0=>exact ex_hear0
 | 1=>exact ex_hear1
 | 2=>exact ex_hear2
 | 3=>exact ex_hear3
 | 4=>exact ex_hear4
 | 5=>exact ex_hear5
 | n+6=>omega
end Go.Proofs.YtfecgebhoondjaaGreatDoor
namespace Go.Proofs.YtfecgebhoondjaaGreatDoor
namespace Hea
end Hea
end Go.Proofs.YtfecgebhoondjaaGreatDoor
namespace Go.Proofs.YtfecgebhoondjaaGreatDoor
open Go.RowKit
namespace Hea
def okC (c:UInt8):Bool:=c==32||(decide (97≤c.toNat)&&decide (c.toNat≤122))
def okL (w:Str):Bool:=decide (1≤w.length)&&decide (w.length≤12)
end Hea
open R
end Go.Proofs.YtfecgebhoondjaaGreatDoor
namespace Go.Proofs.YtfecgebhoondjaaGreatDoor
namespace Hea
def letW (w:Str):Bool:=w.all λc=>decide (97≤c.toNat)&&decide (c.toNat≤122)
theorem word_split (w:Str):q47 w=(okL w&&letW w):=by
 unfold q47 okL letW;cases w with
 | nil=>rfl
 | cons c r=>simp [Bool.and_assoc]
theorem qhx:∀ l:List Str,l.all q47=(l.all okL&&l.all letW)
 | []=>rfl
 | w::r=>by
  rw [List.all_cons,List.all_cons,List.all_cons,qhx r,word_split];cases okL w <;> cases letW w <;> simp
theorem cut_total:∀ s:Str,(cutW s).all okL=true→s.length+1≤13*(cutW s).length:=by
 have key:∀ l:List Str,l.all okL=true→(l.map λw=>w.length+1).sum≤13*l.length:=by
  intro l
  induction l with
  | nil=>intro _;exact Nat.le_refl _
  | cons w r ih =>
   intro h;rw [List.all_cons,Bool.and_eq_true] at h;have h1:=ih h.2;have h2:w.length≤12:=by have:=h.1;unfold okL at this;rw [Bool.and_eq_true] at this;exact of_decide_eq_true this.2
   rw [List.map_cons,List.sum_cons,List.length_cons];omega
 have sum:∀ s:Str,((cutW s).map λw=>w.length+1).sum=s.length+1:=by
  intro s
  induction s with
  | nil=>rfl
  | cons c r ih =>
   rw [cutW];split
   ·rw [List.map_cons,List.sum_cons,ih,List.length_cons,List.length_nil];omega
   ·split
    ·rename_i w ws h;rw [h,List.map_cons,List.sum_cons] at ih;rw [List.map_cons,List.sum_cons,List.length_cons,List.length_cons];omega
    ·rename_i h;exact absurd h (cutW_ne r)
 intro s h;rw [← sum s];exact key _ h
end Hea
namespace Hea
end Hea
namespace Hea
end Hea
end Go.Proofs.YtfecgebhoondjaaGreatDoor
namespace Go.Proofs.YtfecgebhoondjaaGreatDoor
open Go.RowKit
attribute [local go_sem] q1y q1e q1l
end Go.Proofs.YtfecgebhoondjaaGreatDoor
namespace Go.Proofs.YtfecgebhoondjaaGreatDoor
open Go.RowKit
attribute [local go_sem] q1y q1e q1l Later.cell Later.frozen wrap64_nat wrap64_add wrap64_succ
end Go.Proofs.YtfecgebhoondjaaGreatDoor
namespace Go.Proofs.YtfecgebhoondjaaGreatDoor
open Go.RowKit R
end Go.Proofs.YtfecgebhoondjaaGreatDoor
namespace Go.Proofs.YtfecgebhoondjaaGreatDoor
open Go.RowKit
namespace Hea
end Hea
open R
end Go.Proofs.YtfecgebhoondjaaGreatDoor
namespace Go.Proofs.YtfecgebhoondjaaGreatDoor
open Go.RowKit R
theorem fewH_out {lang:List UInt8} {ws:List (List UInt8)} {c:CfP} {book:q0d} {text:List UInt8} (h:fewH (lang,ws) c book text=true):q0y (lang,ws)∧q0o c∧q5k book∧text.length≤100∧book.length≤8:=by
 unfold fewH at h;rw [Bool.and_eq_true,decide_eq_true_eq] at h;obtain ⟨hW,hC,hg,hl,hws⟩:=few_out41 h.1;exact ⟨hW,hC,longB_of hg hl (by omega),h.2,by omega⟩
theorem qk5 (ws:List (List UInt8)) (i:Int):∀ {l:List Int},l≠[]→Cod.q2w ws (l++[i])=Cod.q2w ws l++32::ws.getD i.toNat []
 | [],h=>absurd rfl h
 | [k],_=>Cod.q8x ws k i []
 | k::m::r,_=>by
  rw [List.cons_append,List.cons_append,Cod.q8x,← List.cons_append,qk5 ws i (l:=m::r) (by intro h;cases h),Cod.q8x,List.append_assoc]
  rfl
set_option maxRecDepth 100000 in
theorem text42_vc (lang:List UInt8) (ws:List (List UInt8)) (code:List Int) (h:cText42.pre ((lang,ws),code)) :
  (∃ (p':Nat),(p'≤code.length∧Cod.inB ws.length (List.take p' code)=true)∧([]=Cod.q2w ws (List.take p' code)∧(0:Int)=(p':Int)∧code=code∧True∧True)∧((lang =
  lang∧ws=ws∧True)∧True)∧True∧True∧True∧True∧True∧True∧True∧True)∧∀ (p:Nat),p≤code.length∧Cod.inB ws.length (List.take p code)=true→bif decide ((p:Int)
  < (code.length:Int)) then ((0:Int)≤(p:Int)∧(p:Int)<(code.length:Int))∧bif decide (code.getD (p:Int).toNat (0:Int)<(0:Int)) then []=q23 ws code else ((0 :
  Int)≤(p:Int)∧(p:Int)<(code.length:Int))∧bif decide ((ws.length:Int)≤code.getD (p:Int).toNat (0:Int)) then []=q23 ws code else bif decide ((0:Int)<(↑p :
  Int)) then List.length (Cod.q2w ws (List.take p code))+[(32:UInt8)].length≤(9223372036854775807:Nat)∧((0:Int)≤(p:Int)∧(p:Int)<(code.length:Int))∧((0:Int) ≤
  code.getD (p:Int).toNat (0:Int)∧code.getD (p:Int).toNat (0:Int)<(ws.length:Int))∧(Cod.q2w ws (List.take p code)++[(32:UInt8)]).length+(ws.getD (code.getD (↑p :
  Int).toNat (0:Int)).toNat []).length≤(9223372036854775807:Nat)∧((-9223372036854775808:Int)≤(p:Int)+(1:Int)∧(p:Int)+(1:Int)≤(9223372036854775807:Int))∧∃ (p'
  : Nat),(p'≤code.length∧Cod.inB ws.length (List.take p' code)=true)∧code.length-p'<code.length-p∧(Cod.q2w ws (List.take p code)++[(32:UInt8)]++ws.getD (code.getD (↑p
  : Int).toNat (0:Int)).toNat []=Cod.q2w ws (List.take p' code)∧(p:Int)+(1:Int)=(p':Int)∧code=code∧True∧True)∧((lang=lang∧ws=ws∧True)∧True)∧True ∧
  True∧True∧True∧True∧True∧True∧True else ((0:Int)≤(p:Int)∧(p:Int)<(code.length:Int))∧((0:Int)≤code.getD (p:Int).toNat (0:Int)∧code.getD (↑p :
  Int).toNat (0:Int)<(ws.length:Int))∧List.length (Cod.q2w ws (List.take p code))+(ws.getD (code.getD (p:Int).toNat (0:Int)).toNat []).length≤(9223372036854775807:Nat) ∧
  ((-9223372036854775808:Int)≤(p:Int)+(1:Int)∧(p:Int)+(1:Int)≤(9223372036854775807:Int))∧∃ (p':Nat),(p'≤code.length∧Cod.inB ws.length (List.take p' code) =
  true)∧code.length-p'<code.length-p∧(Cod.q2w ws (List.take p code)++ws.getD (code.getD (p:Int).toNat (0:Int)).toNat []=Cod.q2w ws (List.take p' code)∧(p:Int)+(1
  : Int)=(p':Int)∧code=code∧True∧True)∧((lang=lang∧ws=ws∧True)∧True)∧True∧True∧True∧True∧True∧True∧True∧True else Cod.q2w ws (List.take p code) =
  q23 ws code
  := by
 obtain ⟨⟨hl1,hl2,hws⟩,hl⟩:=h;have hl:code.length≤1000:=hl;have hws:∀ s∈ws,s.length≤1000000:=hws;simp only [true_and,and_true];refine ⟨⟨0,⟨Nat.zero_le _,rfl⟩,rfl,rfl⟩,?_⟩;rintro k ⟨hk,hin⟩;have hti:((k:Int).toNat)=k:=rfl;simp only [hti];have hlen:∀ l:List Int,(Cod.q2w ws l).length≤l.length*1000001:=by
  intro l
  induction l with
  | nil=>exact Nat.zero_le _
  | cons i r ih =>
   have hw:(ws.getD i.toNat []).length≤1000000:=by
    by_cases hi:i.toNat<ws.length
    ·exact hws _ (Snd.q1d ws [] _ hi)
    ·rw [List.getD_eq_getElem?_getD,List.getElem?_eq_none (by omega)];exact Nat.zero_le _
   cases r with
   | nil=>show (ws.getD i.toNat []).length≤1*1000001;omega
   | cons k r =>
    rw [Cod.q8x,List.length_append,List.length_cons,List.length_cons (a:=i),Nat.succ_mul];omega
 refine bifP (λhb=>?_) λhb=>?_
 ·have hlt:k<code.length:=by have:=of_decide_eq_true hb;omega
  have hjl:=hlen (code.take k);rw [List.length_take,Nat.min_eq_left hk] at hjl;have hjl2:k*1000001≤1000001000:=by omega
  have bad:¬ (0≤code.getD k 0∧code.getD k 0<(ws.length:Int))→[]=q23 ws code:=λhn=>by
   unfold q23;rw [if_neg];intro hh;exact hn (Cod.q99 hh hlt)
  refine ⟨⟨by omega,by omega⟩,bifP (λhb=>bad λh=>by have:=of_decide_eq_true hb;omega) λh0=>⟨⟨by omega,by omega⟩,bifP (λhb=>bad λh=>by have:=of_decide_eq_true hb;omega) λh1=>?_⟩⟩
  have h0:=of_decide_eq_false h0;have h1:=of_decide_eq_false h1;have hin':Cod.inB ws.length (code.take (k+1))=true:=by
   unfold Cod.inB at hin ⊢;rw [Snd.q44 code 0 _ k hlt,hin,Bool.true_and,Bool.and_eq_true,decide_eq_true_eq,decide_eq_true_eq];omega
  have hw:(ws.getD (code.getD k 0).toNat []).length≤1000000:=hws _ (Snd.q1d ws [] _ (by omega))
  refine bifP (λhb=>?_) λhb=>?_
  ·have hk0:0<k:=by have:=of_decide_eq_true hb;omega
   refine ⟨by rw [List.length_singleton];omega,⟨by omega,by omega⟩,⟨by omega,by omega⟩,by rw [List.length_append,List.length_singleton];omega,⟨by omega,by omega⟩,k+1,⟨hlt,hin'⟩,by omega,?_,by push_cast;rfl⟩
   rw [Snd.q1f code 0 k hlt,qk5 ws (code.getD k 0) (by
    intro e;have:=congrArg List.length e;rw [List.length_take,List.length_nil] at this;omega),List.append_assoc]
   rfl
  ·have hk0:k=0:=by have:=of_decide_eq_false hb;omega
   subst hk0;clear hjl hjl2 hlen;have h0:(Cod.q2w ws (code.take 0)).length=0:=rfl;refine ⟨⟨by omega,by omega⟩,⟨by omega,by omega⟩,by rw [h0];omega,⟨by omega,by omega⟩,1,⟨hlt,hin'⟩,by omega,?_,rfl⟩
   rw [Snd.q1f code 0 0 hlt];rfl
 ·rw [List.take_of_length_le (by have:=of_decide_eq_false hb;omega)] at hin ⊢
  unfold q23;rw [if_pos hin]
theorem few42_vc (lang:List UInt8) (ws:List (List UInt8)) (c:CfP) (book:q0d) (text:List UInt8) (h:cFew42.pre ((lang,ws),c,book,text)) :
  (8:Int)≤(1000:Int)∧bif q63 (lang,ws) c book (8:Int) then decide ((text.length:Int)≤(100:Int))=fewH (lang,ws) c book text else false=fewH (lang,ws) c book text
  := by
 refine ⟨by omega,bifP (λhb=>?_) λhb=>?_⟩
 ·unfold fewH
  rw [hb,Bool.true_and];exact decide_eq_decide.2 (by omega)
 ·unfold fewH
  rw [hb];rfl
abbrev qd2:Prop :=
 (([(101:UInt8),(110:UInt8)]=[(101:UInt8),(110:UInt8)]∧True∧True)∧True)
set_option maxRecDepth 100000 in
theorem head42_vc (h:cHead42.pre ()) :
  (∃ (p':Nat),p'≤(6:Nat)∧(true=true∧(0:Int)=(p':Int)∧True∧True∧True∧True∧True∧True)∧qd2∧([[(98:UInt8),(97:UInt8),(100:UInt8)],[(98:UInt8),(97:UInt8),(110:UInt8)],[(112:UInt8),(97:UInt8),(110:UInt8)],[(115:UInt8),(101:UInt8),(97:UInt8)]]=wd42∧[([(98:UInt8)],[(112:UInt8)])]=cf42∧[([(101:UInt8),(49:UInt8)],[(0:Int),(0:Int),(3:Int)],false,(0:Int),(0:Int)),([(101:UInt8),(50:UInt8)],[(1:Int),(3:Int),(0:Int)],false,(0:Int),(0:Int))]=bk42∧[[(98:UInt8),(97:UInt8),(100:UInt8),(32:UInt8),(98:UInt8),(97:UInt8),(100:UInt8),(32:UInt8),(115:UInt8),(101:UInt8),(97:UInt8)],[(98:UInt8),(97:UInt8),(100:UInt8),(32:UInt8),(112:UInt8),(97:UInt8),(100:UInt8),(32:UInt8),(115:UInt8),(101:UInt8),(97:UInt8)],[(98:UInt8),(97:UInt8),(100:UInt8),(32:UInt8),(115:UInt8),(101:UInt8),(97:UInt8)],[(98:UInt8),(97:UInt8),(100:UInt8),(32:UInt8),(115:UInt8),(101:UInt8),(97:UInt8),(32:UInt8),(98:UInt8),(97:UInt8),(100:UInt8)],[(115:UInt8),(101:UInt8),(97:UInt8),(32:UInt8),(98:UInt8),(97:UInt8),(110:UInt8),(32:UInt8),(98:UInt8),(97:UInt8),(100:UInt8)],[(112:UInt8),(97:UInt8),(110:UInt8),(32:UInt8),(115:UInt8),(101:UInt8),(97:UInt8),(32:UInt8),(98:UInt8),(97:UInt8),(100:UInt8)]]=q1u∧[[(101:UInt8),(49:UInt8)],[(101:UInt8),(49:UInt8)],[(101:UInt8),(49:UInt8)],[(101:UInt8),(49:UInt8)],[(101:UInt8),(50:UInt8)],[(101:UInt8),(50:UInt8)]]=q2y∧True)∧True∧True∧True∧True∧True∧True∧True)∧∀ (p:Nat),p≤(6:Nat)→bif decide ((p:Int)<(q1u.length:Int)) then (0≤(p:Int)∧(p:Int)<(q1u.length:Int))∧(q0y ([(101:UInt8),(110:UInt8)],wd42)∧q0o cf42∧q5k bk42∧(q1u.getD (p:Int).toNat []).length≤(1000:Nat))∧bif (Hea.q0w { lang:=[(101:UInt8),(110:UInt8)],ws:=wd42,c:=cf42 } bk42 (q1u.getD (p:Int).toNat [])).2.2==(0:Int) then (0≤(p:Int)∧(p:Int)<(q2y.length:Int))∧bif (Hea.q0w { lang:=[(101:UInt8),(110:UInt8)],ws:=wd42,c:=cf42 } bk42 (q1u.getD (p:Int).toNat [])).1==q2y.getD (p:Int).toNat [] then (zFit ((p:Int)+1))∧∃ (p':Nat),p'≤(6:Nat)∧(6:Nat)-p'<(6:Nat)-p∧(((Hea.q0w { lang:=[(101:UInt8),(110:UInt8)],ws:=wd42,c:=cf42 } bk42 (q1u.getD (p:Int).toNat [])).2.1==decide (0<(p:Int)))=true∧(p:Int)+1=(p':Int)∧True∧True∧True∧True∧True∧True)∧qd2∧(wd42=wd42∧cf42=cf42∧bk42=bk42∧q1u=q1u∧q2y=q2y∧True)∧True∧True∧True∧True∧True∧True∧True else (zFit ((p:Int)+1))∧∃ (p':Nat),p'≤(6:Nat)∧(6:Nat)-p'<(6:Nat)-p∧(false=true∧(p:Int)+1=(p':Int)∧True∧True∧True∧True∧True∧True)∧qd2∧(wd42=wd42∧cf42=cf42∧bk42=bk42∧q1u=q1u∧q2y=q2y∧True)∧True∧True∧True∧True∧True∧True∧True else (zFit ((p:Int)+1))∧∃ (p':Nat),p'≤(6:Nat)∧(6:Nat)-p'<(6:Nat)-p∧(false=true∧(p:Int)+1=(p':Int)∧True∧True∧True∧True∧True∧True)∧qd2∧(wd42=wd42∧cf42=cf42∧bk42=bk42∧q1u=q1u∧q2y=q2y∧True)∧True∧True∧True∧True∧True∧True∧True else (q0y ([(101:UInt8),(110:UInt8)],wd42)∧q0o cf42∧q5k bk42∧[(98:UInt8),(97:UInt8),(110:UInt8),(32:UInt8),(98:UInt8),(97:UInt8),(110:UInt8),(32:UInt8),(98:UInt8),(97:UInt8),(110:UInt8)].length≤(1000:Nat))∧(q0y ([(101:UInt8),(110:UInt8)],wd42)∧q0o cf42∧q5k bk42∧[(98:UInt8),(97:UInt8),(100:UInt8),(32:UInt8),(32:UInt8),(115:UInt8),(101:UInt8),(97:UInt8)].length≤(1000:Nat))∧(q0y ([(101:UInt8),(110:UInt8)],wd42)∧q0o cf42∧q5k bk42∧[(98:UInt8),(97:UInt8),(100:UInt8),(32:UInt8),(98:UInt8),(97:UInt8),(100:UInt8),(32:UInt8),(115:UInt8),(101:UInt8),(97:UInt8)].length≤(1000:Nat))∧((10:Int)==(10:Int))=true:=by
 delta qd2 zFit
 have hlong:q0y ([101,110],wd42)∧q0o cf42∧q5k bk42:=by
  refine ⟨⟨by decide,by decide,by decide⟩,⟨by decide,by decide⟩,by decide,by decide⟩
 simp only [true_and,and_true];refine ⟨⟨0,by omega,rfl,rfl,rfl,rfl,rfl,rfl⟩,?_⟩
 intro k hk;have hti:((k:Int).toNat)=k:=rfl;simp only [hti];have hs6:q1u.length=6:=rfl;have hw6:q2y.length=6:=rfl;refine bifP (λhb=>?_) λhb=>?_
 ·have hlt:k<6:=by have:=of_decide_eq_true hb;omega
  have hx:Hea.q0w ⟨[101,110],wd42,cf42⟩ bk42 (q1u.getD k [])=(q2y.getD k [],decide ((0:Int)<(k:Int)),0):=ex_hear hlt;rw [hx];have hsl:∀ s∈q1u,s.length≤1000:=by decide
  refine ⟨⟨by omega,by omega⟩,⟨hlong.1,hlong.2.1,hlong.2.2,hsl _ (Snd.q1d q1u [] k (by omega))⟩,bifP (λ_=>⟨⟨by omega,by omega⟩,bifP (λ_=>⟨⟨by omega,by omega⟩,k+1,by omega,by omega,beq_self_eq_true _,by push_cast;rfl⟩) λhf=>?_⟩) λhf=>by simp at hf⟩
  rw [beq_self_eq_true] at hf;cases hf
 ·exact ⟨⟨hlong.1,hlong.2.1,hlong.2.2,by decide⟩,⟨hlong.1,hlong.2.1,hlong.2.2,by decide⟩,⟨hlong.1,hlong.2.1,hlong.2.2,by decide⟩,rfl⟩
set_option maxRecDepth 100000 in
theorem text42_holds:cText42.Holds Tryz.prog:=by
 refine q36 (cons:=[]) Tryz.func48 (by kernel_rfl) (by kernel_rfl) mixed (by kernel_rfl) all_nil (λp=>anText42 p.1.2 p.2) λp hp=>?_
 obtain ⟨⟨lang,ws⟩,code⟩:=p;refine cast ?_ (text42_vc lang ws code hp)
 kernel_rfl
set_option maxRecDepth 100000 in
theorem few42_holds:cFew42.Holds Tryz.prog:=by
 refine q36 (cons:=[cFew41]) Tryz.func17 (by kernel_rfl) (by kernel_rfl) mixed (by kernel_rfl) (all_cons few41_holds all_nil) (λ_=>[]) λp hp=>?_
 obtain ⟨⟨lang,ws⟩,c,book,text⟩:=p;refine cast ?_ (few42_vc lang ws c book text hp)
 kernel_rfl
set_option maxRecDepth 100000 in
theorem head42_holds:cHead42.Holds Tryz.prog:=by
 refine q36 (cons:=[cHear.lent,cHere.lent]) Tryz.func16 (by kernel_rfl) (by kernel_rfl) mixed (by kernel_rfl) (all_cons (show cHear.lent.Holds Tryz.prog from qjt) (all_cons (show cHere.lent.Holds Tryz.prog from here_holds) all_nil)) (λ_=>anHead42) λp hp=>?_
 refine cast ?_ (head42_vc hp)
 kernel_rfl
end Go.Proofs.YtfecgebhoondjaaGreatDoor
namespace Go.Proofs.YtfecgebhoondjaaGreatDoor
open Go.RowKit
namespace Hea
end Hea
open R
def cHNev:Con:=.of 14 [ckWl,ckCf,q87,ckU8,ckU8] [q3d] (λp=>CK.Big ckWl p.1∧CK.Big ckCf p.2.1∧CK.Big q87 p.2.2.1∧CK.Big ckU8 p.2.2.2.1∧CK.Big ckU8 p.2.2.2.2) (λ_=>true)
def consHNev:List Con:=[cHead42,cFew42,qbf,cText42,cHear,cMist]
end Go.Proofs.YtfecgebhoondjaaGreatDoor
namespace Go.Proofs.YtfecgebhoondjaaGreatDoor
open Go.RowKit
namespace Hea
theorem said_len {text:Str} {w:List Str} (h:q7b text=some w):text.length≤64:=by
 unfold q7b at h;split at h
 ·rename_i hc
  rw [Bool.and_eq_true,qhx,Bool.and_eq_true] at hc;have h5:=of_decide_eq_true hc.2;have ht:=cut_total text hc.1.1;omega
 ·cases h
end Hea
open R
set_option maxRecDepth 100000 in
theorem hnev_vc (e:Cod.Ear) (book:q0d) (i k:Int) (h:cHNev.pre ((e.lang,e.ws),e.c,book,i,k)) :
  True∧True∧bif !fewH (e.lang,e.ws) e.c book [] then true=true else bif (↑(List.length book):Int)==(0:Int) then true=true else (q0y (e.lang,e.ws)∧q0o e.c∧q5k book) ∧
  bif !e.proper book then true=true else (↑(List.length book):Int)≠(0:Int)∧((0:Int)≤(IntKind.i64.wrap i).tmod (↑(List.length book):Int)∧(IntKind.i64.wrap i).tmod
  (↑(List.length book):Int)<(↑(List.length book):Int))∧(q0y (e.lang,e.ws)∧(List.getD book ((IntKind.i64.wrap i).tmod (↑(List.length book):Int)).toNat Cod.noG).2.1.length≤(1000
  : Nat))∧(q0y (e.lang,e.ws)∧q0o e.c∧q5k book∧(q23 e.ws (List.getD book ((IntKind.i64.wrap i).tmod (↑(List.length book):Int)).toNat Cod.noG).2.1).length≤(1000:Nat)) ∧
  (q0y (e.lang,e.ws)∧q0o e.c∧(List.getD book ((IntKind.i64.wrap i).tmod (↑(List.length book):Int)).toNat Cod.noG).2.1.length≤(1000000:Nat))∧bif (Hea.q0w e book (q23 e.ws
  (List.getD book ((IntKind.i64.wrap i).tmod (↑(List.length book):Int)).toNat Cod.noG).2.1)).2.2 != (0:Int) then false=true else bif (Hea.q0w e book (q23 e.ws (List.getD book
  ((IntKind.i64.wrap i).tmod (↑(List.length book):Int)).toNat Cod.noG).2.1)).2.1 then false=true else bif !(Hea.q0w e book (q23 e.ws (List.getD book ((IntKind.i64.wrap i).tmod
  (↑(List.length book):Int)).toNat Cod.noG).2.1)).1==(List.getD book ((IntKind.i64.wrap i).tmod (↑(List.length book):Int)).toNat Cod.noG).1 then false=true else bif (e.q0v (List.getD
  book ((IntKind.i64.wrap i).tmod (↑(List.length book):Int)).toNat Cod.noG).2.1).2 != (0:Int) then false=true else bif (↑(e.q0v (List.getD book ((IntKind.i64.wrap i).tmod
  (↑(List.length book):Int)).toNat Cod.noG).2.1).1.length:Int)==(0:Int) then true=true else (↑(e.q0v (List.getD book ((IntKind.i64.wrap i).tmod (↑(List.length book):Int)).toNat
  Cod.noG).2.1).1.length:Int)≠(0:Int)∧((0:Int)≤(IntKind.i64.wrap k).tmod (↑(e.q0v (List.getD book ((IntKind.i64.wrap i).tmod (↑(List.length book):Int)).toNat
  Cod.noG).2.1).1.length:Int)∧(IntKind.i64.wrap k).tmod (↑(e.q0v (List.getD book ((IntKind.i64.wrap i).tmod (↑(List.length book):Int)).toNat Cod.noG).2.1).1.length:Int)<(↑(e.q0v
  (List.getD book ((IntKind.i64.wrap i).tmod (↑(List.length book):Int)).toNat Cod.noG).2.1).1.length:Int))∧(q0y (e.lang,e.ws)∧((e.q0v (List.getD book ((IntKind.i64.wrap i).tmod
  (↑(List.length book):Int)).toNat Cod.noG).2.1).1.getD ((IntKind.i64.wrap k).tmod (↑(e.q0v (List.getD book ((IntKind.i64.wrap i).tmod (↑(List.length book):Int)).toNat
  Cod.noG).2.1).1.length:Int)).toNat []).length≤(1000:Nat))∧(q0y (e.lang,e.ws)∧q0o e.c∧q5k book∧(q23 e.ws ((e.q0v (List.getD book ((IntKind.i64.wrap i).tmod
  (↑(List.length book):Int)).toNat Cod.noG).2.1).1.getD ((IntKind.i64.wrap k).tmod (↑(e.q0v (List.getD book ((IntKind.i64.wrap i).tmod (↑(List.length book):Int)).toNat
  Cod.noG).2.1).1.length:Int)).toNat [])).length≤(1000:Nat))∧bif (Hea.q0w e book (q23 e.ws ((e.q0v (List.getD book ((IntKind.i64.wrap i).tmod (↑(List.length book):Int)).toNat
  Cod.noG).2.1).1.getD ((IntKind.i64.wrap k).tmod (↑(e.q0v (List.getD book ((IntKind.i64.wrap i).tmod (↑(List.length book):Int)).toNat Cod.noG).2.1).1.length:Int)).toNat []))).2.2==(0
  : Int) then bif (Hea.q0w e book (q23 e.ws ((e.q0v (List.getD book ((IntKind.i64.wrap i).tmod (↑(List.length book):Int)).toNat Cod.noG).2.1).1.getD ((IntKind.i64.wrap k).tmod
  (↑(e.q0v (List.getD book ((IntKind.i64.wrap i).tmod (↑(List.length book):Int)).toNat Cod.noG).2.1).1.length:Int)).toNat []))).2.1 then bif (Hea.q0w e book (q23 e.ws ((e.q0v
  (List.getD book ((IntKind.i64.wrap i).tmod (↑(List.length book):Int)).toNat Cod.noG).2.1).1.getD ((IntKind.i64.wrap k).tmod (↑(e.q0v (List.getD book ((IntKind.i64.wrap i).tmod
  (↑(List.length book):Int)).toNat Cod.noG).2.1).1.length:Int)).toNat []))).1==(List.getD book ((IntKind.i64.wrap i).tmod (↑(List.length book):Int)).toNat Cod.noG).1 then true=true
  else bif (Hea.q0w e book (q23 e.ws ((e.q0v (List.getD book ((IntKind.i64.wrap i).tmod (↑(List.length book):Int)).toNat Cod.noG).2.1).1.getD ((IntKind.i64.wrap k).tmod (↑(e.q0v
  (List.getD book ((IntKind.i64.wrap i).tmod (↑(List.length book):Int)).toNat Cod.noG).2.1).1.length:Int)).toNat []))).2.2==(8:Int) then bif !(Hea.q0w e book (q23 e.ws ((e.q0v
  (List.getD book ((IntKind.i64.wrap i).tmod (↑(List.length book):Int)).toNat Cod.noG).2.1).1.getD ((IntKind.i64.wrap k).tmod (↑(e.q0v (List.getD book ((IntKind.i64.wrap i).tmod
  (↑(List.length book):Int)).toNat Cod.noG).2.1).1.length:Int)).toNat []))).2.1 then ((Hea.q0w e book (q23 e.ws ((e.q0v (List.getD book ((IntKind.i64.wrap i).tmod (↑(List.length
  book):Int)).toNat Cod.noG).2.1).1.getD ((IntKind.i64.wrap k).tmod (↑(e.q0v (List.getD book ((IntKind.i64.wrap i).tmod (↑(List.length book):Int)).toNat Cod.noG).2.1).1.length :
  Int)).toNat []))).1==[])=true else false=true else false=true else bif (Hea.q0w e book (q23 e.ws ((e.q0v (List.getD book ((IntKind.i64.wrap i).tmod (↑(List.length book) :
  Int)).toNat Cod.noG).2.1).1.getD ((IntKind.i64.wrap k).tmod (↑(e.q0v (List.getD book ((IntKind.i64.wrap i).tmod (↑(List.length book):Int)).toNat Cod.noG).2.1).1.length:Int)).toNat
  []))).2.2==(8:Int) then bif !(Hea.q0w e book (q23 e.ws ((e.q0v (List.getD book ((IntKind.i64.wrap i).tmod (↑(List.length book):Int)).toNat Cod.noG).2.1).1.getD ((IntKind.i64.wrap
  k).tmod (↑(e.q0v (List.getD book ((IntKind.i64.wrap i).tmod (↑(List.length book):Int)).toNat Cod.noG).2.1).1.length:Int)).toNat []))).2.1 then ((Hea.q0w e book (q23 e.ws ((e.q0v
  (List.getD book ((IntKind.i64.wrap i).tmod (↑(List.length book):Int)).toNat Cod.noG).2.1).1.getD ((IntKind.i64.wrap k).tmod (↑(e.q0v (List.getD book ((IntKind.i64.wrap i).tmod
  (↑(List.length book):Int)).toNat Cod.noG).2.1).1.length:Int)).toNat []))).1==[])=true else false=true else false=true else bif (Hea.q0w e book (q23 e.ws ((e.q0v (List.getD
  book ((IntKind.i64.wrap i).tmod (↑(List.length book):Int)).toNat Cod.noG).2.1).1.getD ((IntKind.i64.wrap k).tmod (↑(e.q0v (List.getD book ((IntKind.i64.wrap i).tmod (↑(List.length book)
  : Int)).toNat Cod.noG).2.1).1.length:Int)).toNat []))).2.2==(8:Int) then bif !(Hea.q0w e book (q23 e.ws ((e.q0v (List.getD book ((IntKind.i64.wrap i).tmod (↑(List.length book) :
  Int)).toNat Cod.noG).2.1).1.getD ((IntKind.i64.wrap k).tmod (↑(e.q0v (List.getD book ((IntKind.i64.wrap i).tmod (↑(List.length book):Int)).toNat Cod.noG).2.1).1.length:Int)).toNat
  []))).2.1 then ((Hea.q0w e book (q23 e.ws ((e.q0v (List.getD book ((IntKind.i64.wrap i).tmod (↑(List.length book):Int)).toNat Cod.noG).2.1).1.getD ((IntKind.i64.wrap k).tmod
  (↑(e.q0v (List.getD book ((IntKind.i64.wrap i).tmod (↑(List.length book):Int)).toNat Cod.noG).2.1).1.length:Int)).toNat []))).1==[])=true else false=true else false=true
  := by
 simp only [true_and,and_true];obtain ⟨_,_,_,hi,hk⟩:=h;refine bifP (λ_=>trivial) λhf=>bifP (λ_=>trivial) λh0=>?_
 obtain ⟨hW,hC,hB,_,hl8⟩:=fewH_out (q6o hf);have hpos:0<book.length:=by
  rcases Nat.eq_zero_or_pos book.length with h | h
  ·rw [h] at h0;cases h0
  ·exact h
 refine ⟨⟨hW,hC,hB⟩,bifP (λ_=>trivial) λhp=>?_⟩
 have hp:=q6o hp;obtain ⟨i,ei,hi⟩:=idx41 hi hpos;simp only [ei,Int.toNat_natCast];have hmem:book.getD i Cod.noG∈book:=by
  rw [List.getD_eq_getElem?_getD,List.getElem?_eq_getElem hi];exact List.getElem_mem hi
 have hmb:=mistB_proper hp hi;generalize book.getD i Cod.noG=g at hmem hmb ⊢;obtain ⟨hok,hgc⟩:=Hea.q4p hp hmem;obtain ⟨g0,g5,gi⟩:=Hea.code_said hgc;have hv:=(Cod.ok_out hok).1;have hT:q23 e.ws g.2.1=Cod.q2w e.ws g.2.1:=by unfold q23;rw [gi];rfl
 rw [hT,Hea.hear_said hp g0 g5 gi,Hea.never_exact hp hmem,hmb];simp only [bne_self_eq_false,cond_false,beq_self_eq_true,Bool.not_true];have hlen:=Hea.said_len (Hea.qf0 hv g0 g5 gi);refine ⟨by omega,⟨by omega,by omega⟩,⟨hW,by omega⟩,⟨hW,hC,hB,by omega⟩,⟨hW,hC,by omega⟩,bifP (λ_=>trivial) λhne=>?_⟩
 have hpos2:0<(Cod.q8c (e.miss g.2.1)).length:=by
  rcases Nat.eq_zero_or_pos (Cod.q8c (e.miss g.2.1)).length with h | h
  ·rw [h] at hne;cases hne
  ·exact h
 obtain ⟨k,ek,hk⟩:=idx41 hk hpos2;simp only [ek,Int.toNat_natCast];have hx:(Cod.q8c (e.miss g.2.1)).getD k []∈e.miss g.2.1:=Cod.qg8.1 (by
  rw [List.getD_eq_getElem?_getD,List.getElem?_eq_getElem hk];exact List.getElem_mem hk)
 generalize (Cod.q8c (e.miss g.2.1)).getD k []=x at hx ⊢;obtain ⟨x0,x5,xi⟩:=Hea.miss_said hok hgc hx;have hTx:q23 e.ws x=Cod.q2w e.ws x:=by unfold q23;rw [xi];rfl
 have hlenx:=Hea.said_len (Hea.qf0 hv x0 x5 xi);rw [hTx,Hea.hear_said hp x0 x5 xi];refine ⟨by omega,⟨by omega,by omega⟩,⟨hW,by omega⟩,⟨hW,hC,hB,by omega⟩,?_⟩
 rcases Hea.ql5 hp hmem hx with h | h
 ·rw [h];simp
 ·rw [h];simp
end Go.Proofs.YtfecgebhoondjaaGreatDoor
namespace Go.Proofs.YtfecgebhoondjaaGreatDoor
open Go.RowKit R
set_option maxRecDepth 100000 in
theorem hnev_holds:cHNev.Holds Tryz.prog:=by
 refine q36 (cons:=consHNev) Tryz.func14 (by kernel_rfl) (by kernel_rfl) mixed (by kernel_rfl) (all_cons head42_holds (all_cons few42_holds (all_cons qap (all_cons text42_holds (all_cons qjt (all_cons mist41_holds all_nil)))))) (λ_=>[]) λp hp=>?_
 obtain ⟨⟨lang,ws⟩,c,book,i,k⟩:=p;refine cast ?_ (hnev_vc ⟨lang,ws,c⟩ book i k hp)
 kernel_rfl
end Go.Proofs.YtfecgebhoondjaaGreatDoor
namespace Go.Proofs.YtfecgebhoondjaaGreatDoor
open Go.RowKit Go.ChangeShapes Go.WideShapes
namespace R
def fldK (T:TypeId→Option Kds) (P:Program):List Field→Nat→Option Kds
 | [],_=>none
 | [f],o=>match T f.type with
  | some fs=>bif f.offset.beq o&&(P.cellsOf f.type).beq fs.size then some fs else none
  | none=>none
 | f::g::r,o=>match T f.type,fldK T P (g::r) (o+P.cellsOf f.type) with
  | some fs,some gs=>bif f.offset.beq o&&(P.cellsOf f.type).beq fs.size then some (fs.app gs) else none
  | _,_=>none
def repK (fs:Kds):Nat→Option Kds
 | 0=>none
 | 1=>some fs
 | n+2=>match repK fs (n+1) with
  | some gs=>some (fs.app gs)
  | none=>none
def tyK (P:Program):Nat→TypeId→Option Kds
 | 0,_=>none
 | n+1,t=>match P.underlying t with
  | some (.int k)=>some (.one (.int k))
  | some .bool=>some (.one .bool)
  | some .string=>some (.one .str)
  | some (.slice e)=>match tyK P n e with
   | some fs=>bif (P.cellsOf e).beq fs.size then some (.one (.sl fs)) else none
   | none=>none
  | some (.struct F)=>match fldK (tyK P n) P F.toList 0 with
   | some fs=>bif (P.cellsOf t).beq fs.size then some fs else none
   | none=>none
  | some (.array len e)=>match tyK P n e with
   | some fs=>bif (P.cellsOf e).beq fs.size then (match repK fs len with
    | some gs=>bif (P.cellsOf t).beq gs.size then some gs else none
    | none=>none) else none
   | none=>none
  | _=>none
def ckT (P:Program) (t:TypeId):Option CK :=
 match P.underlying t with
 | some (.struct _)=>(tyK P 20 t).map .agg
 | some (.array _ _)=>none
 | _=>match tyK P 20 t with
  | some (.one k)=>some (.one k)
  | _=>none
def appPay:(fs:Kds)→{gs:Kds}→fs.Pay→gs.Pay→(fs.app gs).Pay
 | .one _,_,p,q=>(p,q)
 | .cons _ ks,_,p,q=>(p.1,appPay ks p.2 q)
theorem qjc:∀ (fs gs:Kds),(fs.app gs).size=fs.size+gs.size
 | .one k,gs=>by show gs.size+1=1+gs.size;omega
 | .cons k ks,gs=>by show (ks.app gs).size+1=ks.size+1+gs.size;rw [qjc];omega
theorem app_big:∀ (fs:Kds) {gs:Kds} (p:fs.Pay) (q:gs.Pay),fs.Big p→gs.Big q→(fs.app gs).Big (appPay fs p q)
 | .one k,gs,p,q,hp,hq=>⟨hp,hq⟩
 | .cons k ks,gs,p,q,hp,hq=>⟨hp.1,app_big ks p.2 q hp.2 hq⟩
section
variable {H:Type} {enc:TypeId×Value→H} {P:Program} {w:World} {base:Nat} {spare:Nat→Bool} {held:Bool}
theorem qgc:∀ (fs:Kds) {gs:Kds} (p:fs.Pay) (q:gs.Pay) (cs ds:List Value),q2j w fs p cs→q2j w gs q ds→q2j w (fs.app gs) (appPay fs p q) (cs++ds)
 | .one k,gs,p,q,cs,ds,hp,hq=>by
  obtain ⟨v,rfl,hv⟩:=hp;exact ⟨v,ds,rfl,hv,hq⟩
 | .cons k ks,gs,p,q,cs,ds,hp,hq=>by
  obtain ⟨v,r,rfl,hv,hr⟩:=hp;exact ⟨v,r++ds,rfl,hv,qgc ks p.2 q r ds hr hq⟩
def Opens (enc:TypeId×Value→H) (P:Program) (w:World) (base:Nat) (spare:Nat→Bool) (held:Bool) (t:TypeId) (fs:Kds):Prop :=
 ∀ (fuel:Nat) (cs:List Value) (x:DataW H×List MemPlace),DataW.trod enc P w base spare held fuel t cs=some x→∃ p,q2j w fs p cs∧fs.Big p
theorem fld_opens {T:TypeId→Option Kds} (hT:∀ t fs,T t=some fs→Opens enc P w base spare held t fs):∀ (l:List Field) (o:Nat) (fs:Kds),fldK T P l o=some fs→∀ (n:Nat) (cs:List Value),cs.length=o+fs.size →
  (∀ (i:Nat) (f:Field),l[i]? = some f→∃ y,DataW.trod enc P w base spare held n f.type ((cs.drop f.offset).take (P.cellsOf f.type))=some y)→∃ p,q2j w fs p (cs.drop o)∧fs.Big p
 | [],o,fs,h,n,cs,hc,hx=>by cases h
 | [f],o,fs,h,n,cs,hc,hx=>by
  have h:(match T f.type with
   | some fs=>bif f.offset.beq o&&(P.cellsOf f.type).beq fs.size then some fs else none
   | none=>none)=some fs:=h
  split at h
  ·rename_i gs hg
   cases hb:(f.offset.beq o&&(P.cellsOf f.type).beq gs.size)
   ·rw [hb] at h;cases h
   ·rw [hb] at h
    injection h with h;subst h;rw [Bool.and_eq_true] at hb;have h1:=Nat.eq_of_beq_eq_true hb.1;have h2:=Nat.eq_of_beq_eq_true hb.2;obtain ⟨y,hy⟩:=hx 0 f rfl;rw [h1,h2,List.take_of_length_le (by rw [List.length_drop];omega)] at hy
    exact hT _ _ hg n _ y hy
  ·cases h
 | f::g::r,o,fs,h,n,cs,hc,hx=>by
  have h:(match T f.type,fldK T P (g::r) (o+P.cellsOf f.type) with
   | some fs,some gs=>bif f.offset.beq o&&(P.cellsOf f.type).beq fs.size then some (fs.app gs) else none
   | _,_=>none)=some fs:=h
  split at h
  ·rename_i k1 k2 hg hr
   cases hb:(f.offset.beq o&&(P.cellsOf f.type).beq k1.size)
   ·rw [hb] at h;cases h
   ·rw [hb] at h
    injection h with h;subst h;rw [Bool.and_eq_true] at hb;have h1:=Nat.eq_of_beq_eq_true hb.1;have h2:=Nat.eq_of_beq_eq_true hb.2;rw [qjc] at hc;obtain ⟨y,hy⟩:=hx 0 f rfl;rw [h1,h2] at hy;obtain ⟨p,hp,hbp⟩:=hT _ _ hg n _ y hy;obtain ⟨q,hq,hbq⟩:=fld_opens hT (g::r) _ k2 hr n cs (by omega) λi f' hi=>hx (i+1) f' hi
    refine ⟨appPay k1 p q,?_,app_big k1 p q hbp hbq⟩;have:=qgc k1 p q _ _ hp hq;rw [h2,← List.drop_drop,List.take_append_drop] at this;exact this
  ·cases h
theorem rep_opens {e:TypeId} {fs:Kds} (hT:Opens enc P w base spare held e fs) (hce:P.cellsOf e=fs.size):∀ (len:Nat) (gs:Kds),repK fs len=some gs→∀ (n i0:Nat) (cs:List Value),cs.length=i0*fs.size+gs.size →
  (∀ (i:Nat),i<len→∃ y,DataW.trod enc P w base spare held n e ((cs.drop ((i0+i)*P.cellsOf e)).take (P.cellsOf e))=some y)→∃ p,q2j w gs p (cs.drop (i0*fs.size))∧gs.Big p
 | 0,gs,h,n,i0,cs,hc,hx=>by cases h
 | 1,gs,h,n,i0,cs,hc,hx=>by
  have h:some fs=some gs:=h;injection h with h;subst h;obtain ⟨y,hy⟩:=hx 0 Nat.one_pos;rw [hce,Nat.add_zero,List.take_of_length_le (by rw [List.length_drop];omega)] at hy
  exact hT n _ y hy
 | len+2,gs,h,n,i0,cs,hc,hx=>by
  have h:(match repK fs (len+1) with
   | some gs=>some (fs.app gs)
   | none=>none)=some gs:=h
  split at h
  ·rename_i k2 hr
   injection h with h;subst h;rw [qjc] at hc;obtain ⟨y,hy⟩:=hx 0 (by omega)
   rw [hce,Nat.add_zero] at hy;obtain ⟨p,hp,hbp⟩:=hT n _ y hy;obtain ⟨q,hq,hbq⟩:=rep_opens hT hce (len+1) k2 hr n (i0+1) cs (by rw [Nat.succ_mul];omega) λi hi=>by
    have:=hx (i+1) (by omega)
    rwa [show i0+1+i=i0+(i+1) by omega]
   refine ⟨appPay fs p q,?_,app_big fs p q hbp hbq⟩;have:=qgc fs p q _ _ hp hq;rw [Nat.succ_mul,← List.drop_drop,List.take_append_drop] at this;exact this
  ·cases h
theorem qbi:∀ (n:Nat) (t:TypeId) (fs:Kds),tyK P n t=some fs→Opens enc P w base spare held t fs
 | 0,t,fs,h=>by cases h
 | n+1,t,fs,h=>by
  intro fuel cs x hx;unfold tyK at h;split at h
  ·rename_i k hu
   injection h with h;subst h;obtain ⟨m,h1,h2,h3⟩:=DataW.trod_int hu hx;exact ⟨m,⟨_,h1,rfl⟩,by first | exact h3 | exact h3.1 | exact h3.2⟩
  ·rename_i hu
   injection h with h;subst h;obtain ⟨b,h1,_⟩:=DataW.trod_bool hu hx;exact ⟨b,⟨_,h1,rfl⟩,trivial⟩
  ·rename_i hu
   injection h with h;subst h;obtain ⟨s,h1,_,h3⟩:=DataW.trod_string hu hx;exact ⟨s.data.toList,⟨_,h1,rfl⟩,h3⟩
  ·rename_i e hu
   split at h
   ·rename_i gs hg
    cases hb:(P.cellsOf e).beq gs.size
    ·rw [hb] at h;cases h
    ·rw [hb] at h
     injection h with h;subst h;have hce:=Nat.eq_of_beq_eq_true hb;have hO:=qbi n e gs hg;rcases Go.Deep.open_slice hu hx with ⟨rfl,_⟩ | ⟨a,len,cap,m,k,D,Pl,rfl,hbb,hlc,hm,hmm,_,hxx⟩
     ·exact ⟨([]:List gs.Pay),⟨_,rfl,none,0,rfl,Nat.le_refl _,λh=>absurd h (Nat.lt_irrefl _)⟩,Nat.zero_le _,λx h=>by cases h⟩
     ·have hlm:len≤m:=by rw [hmm];split <;> omega
      have each:∀ i,i<len→∃ p:gs.Pay,∀ g o,a=⟨g,o,none⟩→gs.Rep w (Here w) p g (o+i*gs.size)∧gs.Big p:=λi hi=>by
       obtain ⟨cs',h1,h2⟩:=hxx i (by omega)
       obtain ⟨p,hp,hbig⟩:=hO k cs' _ h2;refine ⟨p,λg o ha=>⟨q2j.row gs p cs' g _ hp λj hj=>?_,hbig⟩⟩
       subst ha;obtain ⟨_,hl,hc⟩:=World.cells?_some h1;have:=hc j (by omega)
       rw [add_pl',add_pl',hce] at this;exact this
      obtain ⟨f,hf⟩:∃ f:Nat→gs.Pay,∀ i,i<len→∀ g o,a=⟨g,o,none⟩→gs.Rep w (Here w) (f i) g (o+i*gs.size)∧gs.Big (f i):=by
       haveI:Inhabited gs.Pay:=⟨gs.dflt⟩
       exact Go.Deep.choose_lt each
      have hlen:((List.range len).map f).length=len:=by simp
      have hpl:0<len→∃ g o,a=⟨g,o,none⟩∧g<w.heap.size:=λhpos=>by
       obtain ⟨cs',h1,_⟩:=hxx 0 (by omega)
       obtain ⟨_,hl,hc⟩:=World.cells?_some h1;have:=hc 0 (by rw [hce];exact gs.q7k)
       rw [Nat.zero_mul] at this;have hlt:0<cs'.length:=by rw [hl,hce];exact gs.q7k
       rw [List.getElem?_eq_getElem hlt] at this;have ha:a.add 0=a:=by unfold Addr.add;simp
       rw [ha] at this;exact cell_plain' this
      refine ⟨((List.range len).map f:List gs.Pay),⟨_,rfl,some a,cap,by rw [hlen],by rw [hlen];exact hlc,λhpos=>?_⟩,?_,?_⟩
      ·rw [hlen] at hpos
       obtain ⟨g,o,rfl,hg⟩:=hpl hpos;refine ⟨g,o,rfl,hg,hg,λi x hi=>?_⟩
       have hil:i<len:=by
        rcases Nat.lt_or_ge i len with h' | h'
        ·exact h'
        ·rw [List.getElem?_eq_none (by rw [hlen];exact h')] at hi;cases hi
       rw [List.getElem?_map,List.getElem?_range hil] at hi;injection hi with hi;subst hi;exact (hf i hil g o rfl).1
      ·rw [hlen];unfold maxLen at hm;omega
      ·intro x hx'
       obtain ⟨i,hi,rfl⟩:=List.mem_map.1 hx';have hi:=List.mem_range.1 hi;obtain ⟨g,o,ha,hg⟩:=hpl (by omega)
       exact (hf i hi g o ha).2
   ·cases h
  ·rename_i F hu
   split at h
   ·rename_i gs hg
    cases hb:(P.cellsOf t).beq gs.size
    ·rw [hb] at h;cases h
    ·rw [hb] at h
     injection h with h;subst h;have hct:=Nat.eq_of_beq_eq_true hb;obtain ⟨xs,m,rfl,_,hl,hxl,hxx⟩:=DataW.trod_struct hu hx;have:=fld_opens (qbi n) F.toList 0 gs hg m cs (by omega) λi f hi=>by
      have h1:F[i]? = some f:=by rw [← Array.getElem?_toList];exact hi
      have h2:=hxx i f h1;have hil:i<xs.length:=by
       rw [hxl];exact (Array.getElem?_eq_some_iff.1 h1).1
      rw [List.getElem?_eq_getElem hil] at h2;exact ⟨_,h2⟩
     rwa [List.drop_zero] at this
   ·cases h
  ·rename_i len e hu
   split at h
   ·rename_i fs1 hg
    cases hb1:(P.cellsOf e).beq fs1.size
    ·rw [hb1] at h;cases h
    ·rw [hb1] at h
     have hce:=Nat.eq_of_beq_eq_true hb1;dsimp only [cond_true] at h;split at h
     ·rename_i gs hr
      cases hb:(P.cellsOf t).beq gs.size
      ·rw [hb] at h;cases h
      ·rw [hb] at h
       injection h with h;subst h;have hct:=Nat.eq_of_beq_eq_true hb;obtain ⟨xs,m,rfl,_,hl,hxl,hxx⟩:=DataW.trod_array hu hx;have:=rep_opens (qbi n e fs1 hg) hce len gs hr m 0 cs (by omega) λi hi=>by
        have h2:=hxx i hi;rw [List.getElem?_eq_getElem (by omega)] at h2
        rw [Nat.zero_add];exact ⟨_,h2⟩
       rwa [Nat.zero_mul,List.drop_zero] at this
     ·cases h
   ·cases h
  ·cases h
theorem qbt {r:Reach} {b0:Nat} (x:CK) (t:TypeId) (ht:ckT P t=some x) {v:Value} {d:DataW H} {ps:List MemPlace} (hv:Value.okWide P w r b0 t v) (h:DataW.Trod enc P w base spare held t v d ps) :
  ∃ p:x.Pay,(x.comp p).Rep (Cx.of (Here w)) w v∧x.Big p:=by
 obtain ⟨fuel,hf⟩:=h;unfold ckT at ht;split at ht
 ·rename_i F hu
  cases hk:tyK P 20 t with
  | none=>rw [hk] at ht;cases ht
  | some ks =>
   rw [hk] at ht;injection ht with ht;subst ht;obtain ⟨cs,rfl,hsz⟩:=okWide_struct hu hv;obtain ⟨p,hp,hb⟩:=qbi 20 t ks hk fuel _ _ hf;obtain ⟨h1,h2,h3⟩:=q2j.reps ks p _ hp;refine ⟨p,⟨cs,rfl,?_,λi c hi=>?_,λi u hi=>?_⟩,hb⟩
   ·rw [← h3];simp [Value.cells]
   ·obtain ⟨u,hu,hr⟩:=h1 i c hi
    exact ⟨u,by simpa [Value.cells] using hu,hr⟩
   ·exact h2 i u (by simpa [Value.cells] using hi)
 ·cases ht
 ·rename_i hns hna
  split at ht
  ·rename_i k hk
   injection ht with ht;subst ht;have hone:v.cells.toList=[v]:=by
    unfold tyK at hk;split at hk
    ·rename_i hu;obtain ⟨n,rfl⟩:=okWide_int hu hv;rfl
    ·rename_i hu;obtain ⟨n,rfl⟩:=okWide_bool hu hv;rfl
    ·rename_i hu;obtain ⟨n,rfl⟩:=okWide_string hu hv;rfl
    ·rename_i hu;obtain ⟨a,n,c,rfl⟩:=okWide_slice hu hv;rfl
    ·rename_i hu;exact absurd hu (hns _)
    ·rename_i hu;exact absurd hu (hna _ _)
    ·cases hk
   obtain ⟨p,⟨v',h1,h2⟩,h3⟩:=qbi 20 t (.one k) hk fuel _ _ hf;rw [hone] at h1;injection h1 with h1;subst h1;exact ⟨p,h2,h3⟩
  ·cases ht
end
end R
end Go.Proofs.YtfecgebhoondjaaGreatDoor

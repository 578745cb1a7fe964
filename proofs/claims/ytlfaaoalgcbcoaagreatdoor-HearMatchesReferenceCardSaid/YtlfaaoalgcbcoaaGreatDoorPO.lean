/-
  Several texts in one: SoJ, SoK, SoML.
-/
import Derived.Test.YtlfaaoalgcbcoaaGreatDoorPN
import Derived.Sort.OwnSortedInts
import Derived.Test.YtlfaaoalgcbcoaaGreatDoorPM
import Derived.Test.YtlfaaoalgcbcoaaGreatDoorPL
open Go.Lib renaming hid→Q0,compact→Q7,toList_data→Qk
open Array renaming getElem?_eq_some_iff→Q4
open List renaming length_append→Q8,length_cons→Qc,length_eq_zero_iff→Qd,replicate→Qe,map_append→Ql
open Nat renaming le_refl→Q9,mul_one→Qb,le_trans→Qf
open Go.Value renaming int→Qa,ownBlock→Qn
open Go.World renaming ownsRow_nil→Qg,size_alloc→Qi
open Go.RowKit.Below renaming heap_alloc→Qh
open Bool renaming and_eq_true→Qj
open Go.CallsIn renaming inRound→Qm
set_option linter.unusedVariables false
namespace Go.Proofs.YtlfaaoalgcbcoaaGreatDoor
open Go.RowKit Go.Sort
def bsRen:Go.Shelf.Ren:=⟨fun | 26=>148 | 33=>168 | 34=>169 | 38=>184 | n=>n,fun | 24=>22 | 3=>3 | 4=>4 | 9=>9 | 0=>0 | 40=>172 | n=>n,fun | n=>n⟩
theorem bsLay:Go.Proofs.Lays2.n26 Tryz.prog bsRen:={
 mixed:=by kernel_rfl
 f26:=Tryz.func148.trans (congrArg some (by kernel_rfl))
 f33:=Tryz.func168.trans (congrArg some (by kernel_rfl))
 f34:=Tryz.func169.trans (congrArg some (by kernel_rfl))
 f38:=Tryz.func184.trans (congrArg some (by kernel_rfl))
 t0:=Tryz.underlying0
 a0:=Tryz.isAgg0
 z0:=Tryz.sizeOf0
 v0:=Tryz.zeroValue0
 t3:=Tryz.underlying3
 a3:=Tryz.isAgg3
 z3:=Tryz.sizeOf3
 v3:=Tryz.zeroValue3
 t4:=Tryz.underlying4
 a4:=Tryz.isAgg4
 z4:=Tryz.sizeOf4
 v4:=Tryz.zeroValue4
 t9:=Tryz.underlying9
 a9:=Tryz.isAgg9
 z9:=Tryz.sizeOf9
 v9:=Tryz.zeroValue9
 t24:=Tryz.underlying22
 a24:=Tryz.isAgg22
 z24:=Tryz.sizeOf22
 v24:=Tryz.zeroValue22
 t40:=Tryz.underlying172
 a40:=Tryz.isAgg172
 z40:=Tryz.sizeOf172
 v40:=Tryz.zeroValue172 }
theorem bs_any (ws:List (List UInt8)) (A:Option Addr) (cap:Nat) (s:List UInt8) (w:World) (hA:qb3 w A ws) (hr:Snd.rising ws=true) (h0:0<ws.length) (hn:ws.length≤1000000) :
  Calls Tryz.prog 148 #[.slice A ws.length cap,.string (bs s)] w λe w'=>e=.returned (.tuple #[.int .i64 (Snd.below ws s:Nat),.bool (decide (Snd.below ws s<ws.length∧ws.getD (Snd.below ws s) []=s))])∧∃ q,w'=w.drewN q:=by
 obtain ⟨g,off,rfl,hg,hc⟩:=hA h0;have h:=Any2.slices_BinarySearch_string bsLay g off ws.length cap (λj=>bs (ws.getD j [])) (bs s) w (by omega) (λj hj=>hc j _ (by rw [List.getD_eq_getElem?_getD,List.getElem?_eq_getElem hj];rfl))
 have hb:Lib.bsGo (λt=>Op.bytesLess (bs (ws.getD t [])).toList (bs s).toList) ws.length 0 ws.length=Snd.below ws s:=Snd.bs_below hr s _ (λt ht=>by rw [Qk,Qk,q2p,q2p])
 rw [hb] at h;refine Calls.mono h ?_;rintro e w' ⟨rfl,hw⟩;refine ⟨?_,hw⟩;have hd:decide (Snd.below ws s<ws.length∧bs (ws.getD (Snd.below ws s) [])=bs s)=decide (Snd.below ws s<ws.length∧ws.getD (Snd.below ws s) []=s):=decide_eq_decide.2 (and_congr_right λ_=>qdz)
 rw [hd]
section
variable {w:World} {base:Nat} {v:Value}
theorem sort_own {zs:List Int} (h:w.ownsRow base 3 1 v zs.length (zs.map (Qa .i64))) (hz:zs.length≤1000000000) :
  Calls Tryz.prog 149 #[v] w λe w'=>e=.returned (.tuple #[])∧w'.ownsRow base 3 1 v zs.length ((zs.mergeSort λx y=>decide (x≤y)).map (Qa .i64))∧w.grownBy w' v.ownBlock:=by
 rcases h.2 with ⟨rfl,h0⟩ | ⟨g,cap,cur,rfl,hb,hh,hc,hm,hsz,ht⟩
 ·obtain rfl:zs=[]:=Qd.1 h0
  refine (Tryz.slices_Sort_int_none none 0 w).mono ?_;rintro e w' ⟨rfl,rfl⟩;exact ⟨rfl,by rw [List.mergeSort_nil];exact h,rfl,rfl,rfl,Q9 _,λ_ _ _=>rfl⟩
 ·rw [Qb] at ht
  have hH:=holds_of_blockI hh ht;have hlt:g<w.heap.size:=(Q4.1 hh).1;refine (Tryz.slices_Sort_int g 0 cap zs w hH hlt (by omega)).mono ?_
  rintro e w' ⟨rfl,n,os,rfl⟩;exact ⟨rfl,ownsRow_sortedI (by simp) hb hh hc hm hsz,grownBy_sortedI _⟩
theorem compact_own {zs:List Int} (h:w.ownsRow base 3 1 v zs.length (zs.map (Qa .i64))) (hz:zs.length≤1000000000) :
  Calls Tryz.prog 150 #[v] w λe w'=>∃ v',e=.returned v'∧w'.ownsRow base 3 1 v' (Q7 zs).length ((Q7 zs).map (Qa .i64))∧w.grownBy w' v.ownBlock:=by
 rcases h.2 with ⟨rfl,h0⟩ | ⟨g,cap,cur,rfl,hb,hh,hc,hm,hsz,ht⟩
 ·obtain rfl:zs=[]:=Qd.1 h0
  refine (Tryz.slices_Compact_int_empty none 0 w).mono ?_;rintro e w' ⟨rfl,rfl⟩;exact ⟨_,rfl,h,rfl,rfl,rfl,Q9 _,λ_ _ _=>rfl⟩
 ·rw [Qb] at ht
  have hH:=holds_of_blockI hh ht;have hlt:g<w.heap.size:=(Q4.1 hh).1;have hcl:(Q7 zs).length≤zs.length:=by
   unfold Q7 Lib.compactUpTo;rw [List.length_map];exact Qf (List.length_filter_le _ _) (by simp)
  refine (Tryz.slices_Compact_int g 0 cap zs w hH (by omega) hc).mono ?_
  rintro e w' ⟨rfl,q,rfl⟩;have hb':=heap_sortedI (n:=q) (os:=#[]) (Q7 zs++Qe (zs.length-(Q7 zs).length) 0).toArray hh;rw [grow_empty] at hb';have hg:=grownBy_sortedI (w:=w) (g:=g) (n:=q) (os:=#[]) (Q7 zs++Qe (zs.length-(Q7 zs).length) 0).toArray;rw [grow_empty] at hg;refine ⟨_,rfl,⟨by simp,.inr ⟨g,cap,_,rfl,hb,hb',by omega,hm,by simp [putCells,hsz],?_⟩⟩,hg⟩
  have ht2:=take_putCellsI cur (Q7 zs++Qe (zs.length-(Q7 zs).length) 0) (by simp;omega)
  have h3:=congrArg (List.take (Q7 zs).length) ht2;rw [List.take_take,Nat.min_eq_left (by simp),Ql,List.take_left' (by simp)] at h3
  rw [Qb];exact h3
end
end Go.Proofs.YtlfaaoalgcbcoaaGreatDoor
namespace Go.Proofs.YtlfaaoalgcbcoaaGreatDoor
open Go.RowKit Go.Maps Go.Shelf
open R
attribute [local go_sem] q2b q1m q1w Oper.semAt_some
abbrev wlv (l:WlP) (A:Option Addr) (cap:Nat):Value:=.agg #[.string (bs l.1),.slice A l.2.length cap]
theorem strs_rep {w:World} {A:Option Addr} {c:Nat} {ls:List (List UInt8)} (h:qb3 w A ls) (hc:ls.length≤c):Kd.Rep w (λg=>g<w.heap.size) (.sl (.one .str)) ls (.slice A ls.length c):=by
 refine ⟨A,c,rfl,hc,λhl=>?_⟩
 obtain ⟨g,off,rfl,hg,hi⟩:=h hl;refine ⟨g,off,rfl,hg,hg,λi x hx=>⟨_,?_,rfl⟩⟩
 rw [show (Kds.one Kd.str).size=1 from rfl,Qb];exact hi i x hx
theorem wlv_rep {w:World} {l:WlP} {A:Option Addr} {cap:Nat} (hA:qb3 w A l.2) (hc:l.2.length≤cap):(CK.comp ckWl l).Rep (Cx.of λg=>g<w.heap.size) w (wlv l A cap):=by
 refine ⟨_,rfl,rfl,?_,?_⟩
 ·intro i x hx
  match i,hx with
  | 0,hx=>injection hx with hx;subst hx;exact ⟨_,rfl,rfl⟩
  | 1,hx=>injection hx with hx;subst hx;exact ⟨_,rfl,strs_rep hA hc⟩
 ·intro i x hx
  match i,hx with
  | 0,hx=>injection hx with hx;subst hx;rfl
  | 1,hx=>injection hx with hx;subst hx;rfl
theorem svalid_any (l:WlP) (A:Option Addr) (cap:Nat) (w:World) (hL:q0w l) (hA:qb3 w A l.2) (hc:l.2.length≤cap) :
  Calls Tryz.prog 62 #[wlv l A cap] w λe w'=>e=.returned (.bool (Snd.q0k l.1 l.2))∧Below w.heap.size w w':=by
 have h:=qd3.2 l [wlv l A cap] w (λg=>g<w.heap.size) (λ_ h=>h) hL ⟨rfl,λi y hy=>by
  match i,hy with
  | 0,hy=>injection hy with hy;subst hy;exact ⟨_,rfl,wlv_rep hA hc⟩⟩
 refine Calls.mono h ?_;rintro e w' ⟨r,v,rfl,hr,hv,hbl⟩;have hr:r=Snd.q0k l.1 l.2:=hr;subst hr;have hv:v=.bool (Snd.q0k l.1 l.2):=hv;exact ⟨by rw [hv],hbl⟩
def NearPost (r:List Int×Int) (w:World) (e:Ending) (w':World):Prop :=
 ∃ v,e=.returned (.tuple #[v,.int .i64 r.2])∧w'.ownsRow w.heap.size 3 1 v r.1.length (r.1.map (Qa .i64))∧Below w.heap.size w w'
theorem blk_kept {W W':World} {g:Nat} {t:TypeId} {cs:Array Value} {row:Option Nat} (h:Blk W g t cs) (hg:W.grownBy W' row) (hr:∀ r,row=some r→∃ o:Obj,W.heap[r]? = some o∧o.isCells=false):Blk W' g t cs :=
 h.grown hg (λe'=>by obtain ⟨o,ho,hc⟩:=hr g e'.symm;rw [show W.heap[g]? = _ from h] at ho;cases ho;cases hc)
def NearI (w:World) (b3 bo:Nat) (l:WlP) (A:Option Addr) (cap:Nat) (pre:List (List UInt8)) (W:World):Prop :=
 (∃ v,Boxed W bo 36 v∧W.ownsRow bo 3 1 v (Snd.q1u l.2 pre).length ((Snd.q1u l.2 pre).map (Qa .i64))∧True)∧Blk W b3 24 #[.string (bs l.1),.slice A l.2.length cap]∧Below w.heap.size w W
theorem nearI_own {w:World} {b3 bo:Nat} {l:WlP} {A:Option Addr} {cap B:Nat} (hB:w.heap.size≤B):OwnFrom B (λpre W=>NearI w b3 bo l A cap pre W):=by
 rintro pre W W' row ⟨⟨v,h1,h2,_⟩,h3,h9⟩ hg hr;have hr':∀ r,row=some r→∃ o:Obj,W.heap[r]? = some o∧o.isCells=false:=λr e=>(hr r e).2
 obtain ⟨v',k1,k2,_⟩:=holdsRow_own bo bo 36 3 1 (λpre:List (List UInt8)=>(Snd.q1u l.2 pre).length) (λpre=>(Snd.q1u l.2 pre).map (Qa .i64)) (λ_ _=>True) pre W W' row ⟨v,h1,h2,trivial⟩ hg hr'
 exact ⟨⟨v',k1,k2,trivial⟩,blk_kept h3 hg hr',h9.grown hg h9.size (λk e=>Qf hB (hr k e).1)⟩
theorem qkj (ws pre:List (List UInt8)) (s:List UInt8):Snd.q1u ws (pre++[s])=Snd.q1u ws pre++Snd.qbf ws s:=by simp [Snd.q1u]
theorem find_len (ws:List (List UInt8)) (s:List UInt8):(Snd.qbf ws s).length≤1:=by
 unfold Snd.qbf;split <;> simp
theorem qhb (ws:List (List UInt8)):∀ l:List (List UInt8),(Snd.q1u ws l).length≤l.length
 | []=>Q9 _
 | s::l=>by
  have h:=qhb ws l;have h2:=find_len ws s;have e:Snd.q1u ws (s::l)=Snd.qbf ws s++Snd.q1u ws l:=rfl;rw [e,Q8,Qc];omega
theorem cut_len (w:List UInt8) (i:Nat) (p:Snd.Conf):(Snd.q2t w i p).length≤1:=by
 unfold Snd.q2t;split <;> simp
theorem at_len (w:List UInt8) (i:Nat):∀ c:CfP,(Snd.atL c w i).length≤2*c.length
 | []=>Q9 _
 | p::c=>by
  have h:=at_len w i c;have h1:=cut_len w i p;have h2:=cut_len w i (Snd.flip p);have e:Snd.atL (p::c) w i=(Snd.q2t w i p++Snd.q2t w i (Snd.flip p))++Snd.atL c w i:=rfl;rw [e,Q8,Q8,Qc];omega
theorem rest_len (w:List UInt8) (c:CfP):∀ f i,(Snd.q6e c w f i).length≤f*(2*c.length)
 | 0,i=>by simp [Snd.q6e]
 | f+1,i=>by
  have h:=rest_len w c f (i+1);have h1:=at_len w i c;rw [Snd.q6e,Q8,Nat.succ_mul];omega
theorem info_int:(Tryz.prog.info? 3).map (λi=>(i.zero,i.size,i.bytes))=some (some (.int .i64 0),1,8):=by kernel_rfl
theorem wl_info:(Tryz.prog.info? 24).map (·.size)=some 2:=by kernel_rfl
theorem qi9 {W:World} {D base:Nat} {e:TypeId} {size k:Nat} {v:Value} {xs:List Value} {o:Obj} (h:W.heap[D]? = some o) (ho:o.isCells=false) (hrow:W.ownsRow base e size v k xs):some D≠v.ownBlock:=by
 intro e';rcases hrow.2 with ⟨rfl,_⟩ | ⟨g',cap,cur,rfl,_,h3,_⟩
 ·cases e'
 ·have:D=g':=by simpa [Qn] using e'
  subst this;rw [h3] at h;injection h with h;subst h;cases ho
theorem kpM_append {B0:Nat} {W w1:World} {base:Nat} {e:TypeId} {size k:Nat} {v:Value} {xs:List Value} {tmp:Obj} (hrow:W.ownsRow base e size v k xs) (hb:B0≤base) (hW:B0≤W.heap.size) (he:∀ cs fr,Mine (.cells cs e fr)=false)
  (hg:(W.alloc tmp).grownBy w1 v.ownBlock):KpM B0 W w1:=by
 refine ⟨λg hg'=>?_,?_,λg o ho hm=>?_⟩
 ·rw [hg.block g (by simp;omega) (λe'=>by have:=q1v hrow g e'.symm;omega)]
  exact Qh W tmp g (by omega)
 ·have:=hg.size
  simp at this;omega
 ·have hlt:g<W.heap.size:=(Q4.1 ho).1
  rw [hg.block g (by simp;omega) (λe'=>by
   rcases hrow.2 with ⟨rfl,_⟩ | ⟨g',cap,cur,rfl,_,h3,_⟩
   ·cases e'
   ·have:g=g':=by simpa [Qn] using e'
    subst this;rw [h3] at ho;injection ho with ho;subst ho;rw [he] at hm;cases hm)]
  rw [Qh W tmp g hlt];exact ho
theorem qk4 {r:List Int×Int} {w w1:World} (h:r=([],1)) (hb:Below w.heap.size w w1) (tmps:Array Value) (h6:tmps.getD 6 undef=.slice none 0 0) (h7:tmps.getD 7 undef=.int .i64 1) :
  ∃ v,(results Tryz.f124 tmps).run Tryz.prog w1=.ok v w1∧NearPost r w (.returned v) w1:=by
 refine ⟨_,results_tmp2 Tryz.results124 _ _ _,.slice none 0 0,?_,?_,hb⟩
 ·rw [h6,h7,h]
 ·rw [h];exact Qg _ _ _ _
set_option maxRecDepth 100000 in
set_option maxHeartbeats 2000000 in
theorem snear_any (l:WlP) (c:CfP) (x:List UInt8) (A B:Option Addr) (cap capB:Nat) (w:World) (hLW:q0w l) (hL:q0n c) (hA:qb3 w A l.2) (hcap:l.2.length≤cap) (hB:CfAt w B c) (hx:x.length≤1000000) :
  Calls Tryz.prog 124 #[wlv l A cap,.slice B c.length capB,.string (bs x)] w (NearPost (Snd.q19 l.1 l.2 c x) w):=by
 refine (callsIn_wide (n:=6)).1 ?_;refine callsIn_of_wp_marks Tryz.func124 rfl trivial ?_ rfl;simp only [Tryz.ntmps124,List.size_toArray,Qc,List.length_nil,Nat.reduceAdd,Nat.reduceSub,Array.replicate_succ,Array.replicate_zero,List.push_toArray,List.append_toArray,List.nil_append,List.cons_append];refine wpIn_wide.2 ?_;have HLC:=Q0 hL;have HLW:=Q0 hLW;have HA:=Q0 hA;have HB:=Q0 hB;clear hL hA hLW hB;have hb3:=Blk.new w 24 #[.string (bs l.1),.slice A l.2.length cap];have hr3:(w.alloc (.cells #[.string (bs l.1),.slice A l.2.length cap] 24)).rangeAt w.heap.size 0 [.string (bs l.1),.slice A l.2.length cap]:=λi v hv=>by
  rw [Nat.zero_add];exact (hb3.cell i).trans (by rw [← hv];simp)
 have HR3:=Q0 hr3;have HB3:=Q0 hb3;clear hr3 hb3
 go_wp2_with (first | (refine wpList_load_mid rfl 24 _ rfl w.heap.size 0 rfl [.string (bs l.1),.slice A l.2.length cap] _ HR3.out Tryz.underlying24 rfl wl_info ?_))
 refine (svalid_any l A cap _ HLW.out (HA.out.bel (q0d (q06 w) _)) hcap).mono ?_;rintro e w1 ⟨rfl,hb1⟩;have hbw:Below w.heap.size w w1:=q2m (q0d (q06 w) _) hb1;have hB3:=HB3.out.bel hb1;have GB3:=Q0 hB3;have HBW:=Q0 hbw;clear hB3 hbw hb1 HR3 HB3;cases hv:Snd.q0k l.1 l.2
 ·have hr:Snd.q19 l.1 l.2 c x=([],1):=by unfold Snd.q19;rw [hv];rfl
  have HR:=Q0 hr;clear hr hv
  go_wp2
  exact qk4 HR.out HBW.out _ rfl rfl
 ·have HV:=Q0 hv
  clear hv
  go_wp2_with fail
  refine (qfh c B capB _ HLC.out (HB.out.bel HBW.out)).mono ?_;rintro e w2 ⟨rfl,hb2⟩;have hB3:=GB3.out.bel hb2;have hbw:=q2m HBW.out hb2;have HB3:=Q0 hB3;have GBW:=Q0 hbw;clear hB3 hbw hb2 GB3 HBW;cases hp:Snd.q0j c
  ·have hr:Snd.q19 l.1 l.2 c x=([],1):=by unfold Snd.q19;rw [HV.out,hp];rfl
   have HR:=Q0 hr;clear hr hp
   go_wp2
   exact qk4 HR.out GBW.out _ rfl rfl
  ·have HP:=Q0 hp
   clear hp
   go_wp2_with fail
   refine (q9y x 1 12 _ hx).mono ?_;rintro e w3 ⟨rfl,hb3⟩;have hB3:=HB3.out.bel hb3;have hbw:=q2m GBW.out hb3;have GB3:=Q0 hB3;have HBW:=Q0 hbw;clear hB3 hbw hb3 HB3 GBW;cases hx1:Snd.q0a x 1 12
   ·have hr:Snd.q19 l.1 l.2 c x=([],1):=by unfold Snd.q19 Snd.q4e;rw [HV.out,HP.out,hx1];rfl
    have HR:=Q0 hr;clear hr hx1
    go_wp2
    exact qk4 HR.out HBW.out _ rfl rfl
   ·have hr:Snd.q19 l.1 l.2 c x=(Snd.q34 l.2 c x l.2.length,0):=by unfold Snd.q19 Snd.q4e;rw [HV.out,HP.out,hx1];rfl
    have HR:=Q0 hr;have HX1:=Q0 hx1;clear hr hx1
    go_wp2_with fail
    refine (alike_mk c B capB x _).mono ?_;rintro e w' ⟨rfl,rfl⟩
    go_wp2
    have hbo:=((Boxed.new w3 36 (.slice none 0 0)).alloc (.cells #[.slice B c.length capB] 25)).alloc (.cells #[.string (bs x)] 9);have hb3:=((GB3.out.alloc (.cells #[.slice none 0 0] 36)).alloc (.cells #[.slice B c.length capB] 25)).alloc (.cells #[.string (bs x)] 9);have hsz3:=GB3.out.lt;have hbl:=q0d (q0d (q0d HBW.out (.cells #[.slice none 0 0] 36)) (.cells #[.slice B c.length capB] 25)) (.cells #[.string (bs x)] 9);have hlay:SLay (((w3.alloc (.cells #[.slice none 0 0] 36)).alloc (.cells #[.slice B c.length capB] 25)).alloc (.cells #[.string (bs x)] 9)) w.heap.size (w3.heap.size+1+1) (w3.heap.size+1) B capB c x:=by
     refine ⟨?_,?_,λhl=>?_⟩
     ·have:=Blk.new ((w3.alloc (.cells #[.slice none 0 0] 36)).alloc (.cells #[.slice B c.length capB] 25)) 9 #[.string (bs x)]
      simpa only [Qi] using this
     ·have:=(Blk.new (w3.alloc (.cells #[.slice none 0 0] 36)) 25 #[.slice B c.length capB]).alloc (.cells #[.string (bs x)] 9)
      simpa only [Qi] using this
     ·obtain ⟨g,off,h1,h2,h3⟩:=HB.out hl
      exact ⟨g,off,h1,h2,λj z hj=>⟨(hbl.cell (p:=⟨g,off+j*2,none⟩) h2).trans (h3 j z hj).1,(hbl.cell (p:=⟨g,off+j*2+1,none⟩) h2).trans (h3 j z hj).2⟩⟩
    have hz4:(((w3.alloc (.cells #[.slice none 0 0] 36)).alloc (.cells #[.slice B c.length capB] 25)).alloc (.cells #[.string (bs x)] 9)).heap.size=w3.heap.size+3:=by simp
    generalize ((w3.alloc (.cells #[.slice none 0 0] 36)).alloc (.cells #[.slice B c.length capB] 25)).alloc (.cells #[.string (bs x)] 9)=W3 at *
    generalize ebw:w3.heap.size+1+1=bw at *
    generalize ebl:w3.heap.size+1=bl at *
    generalize ebo:w3.heap.size=bo at *
    generalize eb3:w.heap.size=b3 at *
    have hlen:=HX1.out;unfold Snd.q0a at hlen;simp only [Qj,decide_eq_true_eq] at hlen;obtain ⟨hlet,_,hx12⟩:=hlen;have hval:=HV.out;unfold Snd.q0k at hval;simp only [Qj,decide_eq_true_eq] at hval;obtain ⟨_,hn1,hn4,_,hris⟩:=hval;obtain ⟨PL,hPL⟩:∃ PL,PL=Snd.q5y c x:=⟨_,rfl⟩;have hpl:PL.length≤100000000:=by
     have:=rest_len x c x.length 0
     have hcl:c.length≤1000000:=HLC.out.1;have h12:x.length≤12:=by omega
     have hm:x.length*(2*c.length)≤12*(2*c.length):=Nat.mul_le_mul_right _ h12;rw [hPL];unfold Snd.q5y;rw [Qc];omega
    have hnear:Q7 ((Snd.q1u l.2 PL).mergeSort λa b=>decide (a≤b))=Snd.q34 l.2 c x l.2.length:=by rw [hPL];exact Snd.near_found hris HP.out x
    have HNEAR:=Q0 hnear;have HPL:=Q0 hPL;have HLET:=Q0 hlet;have HRIS:=Q0 hris;have HLAY:=Q0 hlay;have hseq:SeqStopsK Fence.wide (6-1) Tryz.prog 134 #[.pointer (some ⟨bw,0,none⟩),.pointer (some ⟨bl,0,none⟩)] (λs:List UInt8=>#[.string (bs s)]) (KpM b3) (λys=>ys=PL) (λpre=>pre <+: PL) PL.length W3:=λl' J Jx W hW hJ _ hY h0 =>
     alike_in (6-1) (by omega) l' b3 bw bl B capB c x (by omega) HLET.out HLC.out.1 HLC.out.2 J Jx PL HPL.out hY W (Qf (by omega) hW.size) hJ
      (HLAY.out.keep ⟨λg hg=>hW.block g (by omega),hW.size,λg o ho _=>(hW.block g (Q4.1 ho).1).trans ho⟩) h0
    have HSEQ:=Q0 hseq;have HBO:=Q0 hbo;have H3:=Q0 hb3;have HBL:=Q0 hbl;have hrowi:=info_parts info_int;obtain ⟨i0,hi0,hz0,hz1,hz2⟩:=hrowi;have hn6:l.2.length≤1000000:=HLW.out.2.1;clear hnear hPL hlet hris hlay hseq hbo hb3 hbl;refine (wpIn_wide (n:=6)).1 ?_;refine wpIn_rangeFunc_ownG (F:=Fence.wide) rfl (by omega) (gf:=134) (lb:=#[.pointer (some ⟨bw,0,none⟩),.pointer (some ⟨bl,0,none⟩)]) rfl trivial (enters_of Tryz.func134 (by kernel_rfl) rfl)
     HSEQ.out (λh k=>h.trans k) (λW l o o' hl hlo hc hw=>kpM_put o' (by omega) hlo hc hw) (Below.refl _ _) (λ_=>rfl)
     (λpre W=>NearI w b3 bo l A cap pre W)
     (λ_ _ _=>False)
     (nearI_own (by omega)) (λ_ _ _ _ _ h _ _=>h)
     ⟨⟨_,HBO.out,Qg _ _ _ _,trivial⟩,H3.out,by rw [eb3];exact HBL.out⟩
     (λs:List UInt8=>{ tmps:=#[wlv l A cap,.slice B c.length capB,.string (bs x),.pointer (some ⟨b3,0,none⟩),undef,undef,.slice none 0 0,.int .i64 0,.pointer (some ⟨bo,0,none⟩),.string (bs s),undef,undef,
      .agg #[.string (bs l.1),.slice A l.2.length cap],.bool true,.bool false,.bool false,.slice B c.length capB,.bool true,.bool false,.bool false,.bool false,.string (bs x),.bool true,.bool false,.bool false,
      .slice B c.length capB,.string (bs x),.func (.func 134) #[] #[.pointer (some ⟨bw,0,none⟩),.pointer (some ⟨bl,0,none⟩)],.string (bs s),undef,undef,undef,undef,undef,undef,undef,undef,undef,undef,undef,undef,undef,undef,undef,undef],defers:=[] }) ?assign ?body ?done ?stop
    case assign =>
     intro l s W K hK
     gi_wp2
     exact hK
    case body =>
     rintro l' pre s W ⟨⟨v,hv,hrow,_⟩,q3,qb⟩ hlen;obtain ⟨Ao,co,rfl⟩:=qcc hrow;have co0:=hv.cell;have co1:=hv.frozen;have k1:W.cell? ⟨b3,1,none⟩=some (.slice A l.2.length cap):=q3.cell 1;have hsW:=qb.size;have hboW:bo≤W.heap.size:=Nat.le_of_lt hv.lt;have hfl:=qhb l.2 pre;have hbs:=bs_any l.2 A cap s W (HA.out.bel qb) HRIS.out (by omega) hn6
     have HVB:=Q0 hv;have HROW:=Q0 hrow;have Q3:=Q0 q3;have QB:=Q0 qb;by_cases hfd:Snd.below l.2 s<l.2.length∧l.2.getD (Snd.below l.2 s) []=s
     ·rw [decide_eq_true hfd] at hbs
      have hfs:Snd.q1u l.2 (pre++[s])=Snd.q1u l.2 pre++[(Snd.below l.2 s:Int)]:=by rw [qkj];unfold Snd.qbf;rw [if_pos hfd]
      have hbn:Snd.below l.2 s<l.2.length:=hfd.1;have HFS:=Q0 hfs;have HBS:=Q0 hbs;clear hv hrow q3 qb hbs hfd hfs;generalize Snd.below l.2 s=kb at *
      gi_wp2_with (first
       | (refine ⟨trivial,?_⟩;gi_at_call 148;refine (Qm l' (callsIn_wide.2 HBS.out)).mono ?_;rintro e w' ⟨rfl,q,rfl⟩)
       | (gi_at_builtin;refine wpListIn_append_own _ rfl _ _ 36 rfl bo 3 i0 (.int .i64 0) 1 8 Tryz.underlying36 hi0 hz0 hz1 hz2 rfl (by decide) _ _ _ rfl (show ((W.drewN _).alloc _).ownsRow _ _ _ _ _ _ from HROW.out.alloc _) ⟨W.heap.size,0,none⟩ 1 1 [.int .i64 kb] rfl rfl (cell_one_new _ _ _) (by simp [Value.oneCell']) (by unfold maxLen;omega) (by omega) (by simp;omega) ?_;intro v' w5 hown' hgrow _;obtain ⟨g',cap',rfl⟩:=ownsRow_succ hown';obtain ⟨hv1,hv2,hr2,hk2,hb2⟩:=(show Boxed (W.drewN q) bo 36 _ from HVB.out).appended (by decide) (show (W.drewN q).ownsRow bo 3 1 _ _ _ from HROW.out) hboW (Q9 _) hown' hgrow;have hc1:=hv1.cell;have hf1:=hv1.frozen))
      have hgr:((W.drewN q).alloc (.cells #[.int .i64 kb] 3)).grownBy w5 (Value.slice Ao (Snd.q1u l.2 pre).length co).ownBlock:=hgrow;have hb3W:b3≤(W.drewN q).heap.size:=by show b3≤W.heap.size;omega
      have hkp:=(kpM_append (show (W.drewN q).ownsRow bo 3 1 _ _ _ from HROW.out) (show b3≤bo by omega) hb3W (λ_ _=>rfl) hgr).trans (kpM_set (.slice (some ⟨g',0,none⟩) ((Snd.q1u l.2 pre).length+1) cap') (show b3≤bo by omega) hv1 rfl)
      have e3:=((show Blk (W.drewN q) b3 _ _ from Q3.out).alloc (.cells #[.int .i64 kb] 3)).grown hgr (λe=>by have:=q1v HROW.out b3 e.symm;omega)
      refine ⟨(show KeepsOthers W _ from ⟨hk2.size,hk2.same⟩).from _,⟨hkp.old,hkp.size,hkp.mine⟩,⟨_,hv2,?_,trivial⟩,e3.far (p:=⟨bo,0,none⟩) (by show b3≠bo;omega) _,(q2e QB.out q).trans (hb2.mono (by omega))⟩
      rw [HFS.out,Ql,Q8];exact hr2
     ·rw [decide_eq_false hfd] at hbs
      have hfs:Snd.q1u l.2 (pre++[s])=Snd.q1u l.2 pre:=by rw [qkj];unfold Snd.qbf;rw [if_neg hfd,List.append_nil]
      have HFS:=Q0 hfs;have HBS:=Q0 hbs;clear hv hrow q3 qb hbs hfd hfs
      gi_wp2_with (refine ⟨trivial,?_⟩;gi_at_call 148;refine (Qm l' (callsIn_wide.2 HBS.out)).mono ?_;rintro e w' ⟨rfl,q,rfl⟩)
      exact ⟨(show KeepsOthers W (W.drewN _) from ⟨Q9 _,λ_ _ h _=>h⟩).from _,⟨λ_ _=>rfl,Q9 _,λ_ _ h _=>h⟩,⟨_,HVB.out,by rw [HFS.out];exact HROW.out,trivial⟩,Q3.out,q2e QB.out _⟩
    case done =>
     rintro D ys W hD rfl ⟨⟨v,hv,hrow,_⟩,q3,qb⟩ hK;obtain ⟨Ao,co,rfl⟩:=qcc hrow;have hfl:=qhb l.2 ys;dsimp only;have co0:=hv.cell;have HVB:=Q0 hv;have HROW:=Q0 hrow;have QB:=Q0 qb;have HK:=Q0 hK;clear hv hrow q3 qb hK
     go_wp2_with fail
     refine (sort_own HROW.out (by omega)).mono ?_
     rintro e W1 ⟨rfl,hrow1,hg1⟩;have hv1:=HVB.out.kept hg1 (HVB.out.not_row (by decide) HROW.out)
     have hk1:W1.heap[D]? = some (.deferred (some [])):=(hg1.block D (Q4.1 HK.out).1 (qi9 HK.out rfl HROW.out)).trans HK.out;have hb1:Below w.heap.size w W1:=QB.out.grown hg1 QB.out.size (λk e=>by have:=q1v HROW.out k e;omega)
     have hsl:((Snd.q1u l.2 ys).mergeSort λa b=>decide (a≤b)).length=(Snd.q1u l.2 ys).length:=by simp
     have hrow1':W1.ownsRow bo 3 1 (.slice Ao (Snd.q1u l.2 ys).length co) ((Snd.q1u l.2 ys).mergeSort λa b=>decide (a≤b)).length (((Snd.q1u l.2 ys).mergeSort λa b=>decide (a≤b)).map (Qa .i64)):=by rw [hsl];exact hrow1
     have co1:=hv1.cell;have HROW1:=Q0 hrow1';have HK1:=Q0 hk1;have HB1:=Q0 hb1;clear hv1 hk1 hb1 hrow1 hrow1' hg1 co0
     go_wp2_with fail
     refine (compact_own HROW1.out (by omega)).mono ?_
     rintro e W2 ⟨v',rfl,hrow2,hg2⟩;have hk2:W2.heap[D]? = some (.deferred (some [])):=(hg2.block D (Q4.1 HK1.out).1 (qi9 HK1.out rfl HROW1.out)).trans HK1.out;have hb2:Below w.heap.size w W2:=HB1.out.grown hg2 HB1.out.size (λk e=>by have:=q1v HROW1.out k e;omega)
     rw [HNEAR.out] at hrow2;have HROW2:=Q0 hrow2;have HK2:=Q0 hk2;have HB2:=Q0 hb2;clear hk2 hb2 hrow2 hg2
     go_wp2
     refine ⟨by simp,.inl ⟨D,_,rfl,run_takeDeferred HK2.out,?_⟩⟩
     refine ⟨_,results_tmp2 Tryz.results124 _ _ _,v',?_,?_,?_⟩
     ·rw [HR.out];rfl
     ·rw [HR.out]
      exact q83 (ownsRow_putObj HROW2.out (.deferred none) HK2.out rfl) (by omega)
     ·exact HB2.out.grown (grownBy_putObj' _ D _) HB2.out.size (λk e=>by cases e;omega)
    case stop =>
     rintro D cc pre W hD hpre hf hK;exact hf.elim
end Go.Proofs.YtlfaaoalgcbcoaaGreatDoor
namespace Go.Proofs.YtlfaaoalgcbcoaaGreatDoor
open Go.RowKit R
theorem ints_row {S:Nat→Prop} {w:World} {v:Value} {base:Nat} {e:TypeId} {ks:List Int} {n:Nat} (hn:n=ks.length) (h:w.ownsRow base e 1 v n (ks.map (Qa .i64))) (hS:∀ g,base≤g→g<w.heap.size→S g):Kd.Rep w S (.sl (.one (.int .i64))) ks v:=by
 subst hn;rcases h.2 with ⟨rfl,h0⟩ | ⟨g,cap,cur,rfl,hb,hg,hc,_,hsz,ht⟩
 ·refine ⟨none,0,by rw [h0],by rw [h0];exact Q9 _,λhl=>?_⟩
  have hl:0<ks.length:=hl;omega
 ·have hlt:g<w.heap.size:=by
   rcases Nat.lt_or_ge g w.heap.size with h' | h'
   ·exact h'
   ·rw [Array.getElem?_eq_none h'] at hg;cases hg
  refine ⟨_,cap,rfl,hc,λhl=>⟨g,0,rfl,hlt,hS g hb hlt,λi x hx=>?_⟩⟩
  refine ⟨.int .i64 x,?_,rfl⟩;rw [show (Kds.one (Kd.int .i64)).size=1 from rfl,Qb,Nat.zero_add];have hil:i<ks.length:=by
   rcases Nat.lt_or_ge i ks.length with h' | h'
   ·exact h'
   ·have hx:ks[i]? = some x:=hx
    rw [List.getElem?_eq_none h'] at hx;cases hx
  have h1:(cur.toList.take (ks.length*1))[i]? = some (.int .i64 x):=by
   rw [ht,List.getElem?_map,show ks[i]? = some x from hx];rfl
  rw [Qb,List.getElem?_take,if_pos hil,Array.getElem?_toList] at h1;unfold World.cell?;simp [hg,h1]
theorem wl_rep {p:WlP} {κ:Cx} {w:World} {v:Value} (h:(CK.comp ckWl p).Rep κ w v):∃ A c,v=wlv p A c∧qb3 w A p.2∧p.2.length≤c:=by
 obtain ⟨vs,rfl,hsz,hc,_⟩:=h;obtain ⟨u0,e0,r0⟩:=hc 0 _ rfl;obtain ⟨u1,e1,r1⟩:=hc 1 _ rfl;obtain rfl:u0=.string (bs p.1):=r0;obtain ⟨A,c,rfl,hcap,hi⟩:=r1;refine ⟨A,c,?_,λhl=>?_,hcap⟩
 ·obtain ⟨l⟩:=vs
  have hsz:l.length=2:=hsz
  match l,hsz with
  | [a,b],_ =>
   injection e0 with e0;injection e1 with e1;have e0:a=_:=e0;have e1:b=_:=e1;subst e0;subst e1;rfl
 ·obtain ⟨g,off,rfl,hg,_,hi⟩:=hi hl
  refine ⟨g,off,rfl,hg,λj s hj=>?_⟩
  obtain ⟨u,hu,hr⟩:=hi j s hj;obtain rfl:u=.string (bs s):=hr
  rwa [show (Kds.one Kd.str).size=1 from rfl,Qb] at hu
theorem proper_holds:cProper.Holds Tryz.prog:=by
 refine ⟨⟨⟨_,Tryz.func86,by kernel_rfl,by kernel_rfl⟩,λF' hF p r hr=>by injection hF with hF;subst hF;exact hr⟩,λp vs w S hS hp hvs=>?_⟩
 obtain ⟨v,rfl,hv⟩:=one_arg hvs;obtain ⟨A,c,rfl,hA⟩:=cf_rep (l:=p) hv;refine (qfh p A c w hp hA).mono ?_;rintro e w' ⟨rfl,hbl⟩;exact ⟨Snd.q0j p,_,rfl,rfl,rfl,hbl⟩
theorem qj1:cAlike.Holds Tryz.prog:=by
 refine ⟨⟨⟨_,Tryz.func68,by kernel_rfl,by kernel_rfl⟩,λF' hF p r hr=>by injection hF with hF;subst hF;exact hr⟩,λp vs w S hS hp hvs=>?_⟩
 obtain ⟨p,x,y⟩:=p;obtain ⟨v,v2,v3,rfl,hv,hv2,hv3⟩:=qez hvs;obtain ⟨A,c,rfl,hA⟩:=cf_rep (l:=p) hv;obtain rfl:v2=.string (bs x):=hv2;obtain rfl:v3=.string (bs y):=hv3;refine (salike_any p A c x y w hp.1 hA hp.2.1 hp.2.2).mono ?_;rintro e w' ⟨rfl,hbl⟩;exact ⟨Snd.q0m p x y,_,rfl,rfl,rfl,hbl⟩
theorem near_holds:cNear.Holds Tryz.prog:=by
 refine ⟨⟨⟨_,Tryz.func124,by kernel_rfl,by kernel_rfl⟩,λF' hF p r hr=>by injection hF with hF;subst hF;exact hr⟩,λp vs w S hS hp hvs=>?_⟩
 obtain ⟨l,c,x⟩:=p;obtain ⟨v,v2,v3,rfl,hv,hv2,hv3⟩:=qez hvs;obtain ⟨A,cap,rfl,hA,hcap⟩:=wl_rep (p:=l) hv;obtain ⟨B,capB,rfl,hB⟩:=cf_rep (l:=c) hv2;obtain rfl:v3=.string (bs x):=hv3;refine (snear_any l c x A B cap capB w hp.1 hp.2.1 hA hcap hB hp.2.2).mono ?_;rintro e w' ⟨v,rfl,hrow,hbl⟩;refine ⟨Snd.q19 l.1 l.2 c x,_,rfl,rfl,⟨_,rfl,rfl,?_⟩,hbl⟩;have hr:=ints_row (S:=λg=>S g∨(w.heap.size≤g∧g<w'.heap.size)) rfl hrow (λg h1 h2=>.inr ⟨h1,h2⟩)
 intro i x hx
 match i,hx with
 | 0,hx=>injection hx with hx;subst hx;exact ⟨_,rfl,hr⟩
 | 1,hx=>injection hx with hx;subst hx;exact ⟨_,rfl,rfl⟩
end Go.Proofs.YtlfaaoalgcbcoaaGreatDoor

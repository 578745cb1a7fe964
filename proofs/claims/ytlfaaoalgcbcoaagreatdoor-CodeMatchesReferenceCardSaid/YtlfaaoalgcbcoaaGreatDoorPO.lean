/-
  Several texts in one: SoK, SoML, CoG, CoH, CoP.
-/
import Derived.Test.YtlfaaoalgcbcoaaGreatDoorPN
import Derived.Test.YtlfaaoalgcbcoaaGreatDoorPM
import Derived.Test.YtlfaaoalgcbcoaaGreatDoorPL
open Go.Lib renaming hid→Q0
open List renaming take→Q4,length→Q5,length_append→Q7,getD→Q8,all_append→Q9,all_cons→Qb,length_cons→Qc,append_nil→Qh,length_take→Qm,length_set→Qo
open Array renaming getElem?_eq_some_iff→Q6
open Nat renaming le_refl→Qa,zero_le→Qe,le_trans→Qf,mul_one→Qi
open Bool renaming and_eq_true→Qd,false_and→Qq
open Go.Value renaming int→Qg,ownBlock→Qp
open Go.World renaming ownsRow_nil→Qj,size_alloc→Ql
open Go.RowKit.Below renaming heap_alloc→Qk
open Go.CallsIn renaming inRound→Qn
set_option linter.unusedVariables false
namespace Go.Proofs.YtlfaaoalgcbcoaaGreatDoor
open Go.RowKit Go.Maps Go.Shelf
open R
attribute [local go_sem] q28 q1o q1v Oper.semAt_some
abbrev wlv (l:WlP) (A:Option Addr) (cap:Nat):Value:=.agg #[.string (bs l.1),.slice A l.2.length cap]
theorem strs_rep {w:World} {A:Option Addr} {c:Nat} {ls:List (List UInt8)} (h:qbv w A ls) (hc:ls.length≤c):Kd.Rep w (λg=>g<w.heap.size) (.sl (.one .str)) ls (.slice A ls.length c):=by
 refine ⟨A,c,rfl,hc,λhl=>?_⟩
 obtain ⟨g,off,rfl,hg,hi⟩:=h hl;refine ⟨g,off,rfl,hg,hg,λi x hx=>⟨_,?_,rfl⟩⟩
 rw [show (Kds.one Kd.str).size=1 from rfl,Qi];exact hi i x hx
theorem wlv_rep {w:World} {l:WlP} {A:Option Addr} {cap:Nat} (hA:qbv w A l.2) (hc:l.2.length≤cap):(CK.comp ckWl l).Rep (Cx.of λg=>g<w.heap.size) w (wlv l A cap):=by
 refine ⟨_,rfl,rfl,?_,?_⟩
 ·intro i x hx
  match i,hx with
  | 0,hx=>injection hx with hx;subst hx;exact ⟨_,rfl,rfl⟩
  | 1,hx=>injection hx with hx;subst hx;exact ⟨_,rfl,strs_rep hA hc⟩
 ·intro i x hx
  match i,hx with
  | 0,hx=>injection hx with hx;subst hx;rfl
  | 1,hx=>injection hx with hx;subst hx;rfl
theorem svalid_any (l:WlP) (A:Option Addr) (cap:Nat) (w:World) (hL:q0j l) (hA:qbv w A l.2) (hc:l.2.length≤cap) :
  Calls Tryz.prog 62 #[wlv l A cap] w λe w'=>e=.returned (.bool (Snd.q0c l.1 l.2))∧Below w.heap.size w w':=by
 have h:=q7v.2 l [wlv l A cap] w (λg=>g<w.heap.size) (λ_ h=>h) hL ⟨rfl,λi y hy=>by
  match i,hy with
  | 0,hy=>injection hy with hy;subst hy;exact ⟨_,rfl,wlv_rep hA hc⟩⟩
 refine Calls.mono h ?_;rintro e w' ⟨r,v,rfl,hr,hv,hbl⟩;have hr:r=Snd.q0c l.1 l.2:=hr;subst hr;have hv:v=.bool (Snd.q0c l.1 l.2):=hv;exact ⟨by rw [hv],hbl⟩
def NearPost (r:List Int×Int) (w:World) (e:Ending) (w':World):Prop :=
 ∃ v,e=.returned (.tuple #[v,.int .i64 r.2])∧w'.ownsRow w.heap.size 3 1 v r.1.length (r.1.map (Qg .i64))∧Below w.heap.size w w'
theorem blk_kept {W W':World} {g:Nat} {t:TypeId} {cs:Array Value} {row:Option Nat} (h:Blk W g t cs) (hg:W.grownBy W' row) (hr:∀ r,row=some r→∃ o:Obj,W.heap[r]? = some o∧o.isCells=false):Blk W' g t cs :=
 h.grown hg (λe'=>by obtain ⟨o,ho,hc⟩:=hr g e'.symm;rw [show W.heap[g]? = _ from h] at ho;cases ho;cases hc)
def NearI (w:World) (b3 bo:Nat) (l:WlP) (A:Option Addr) (cap:Nat) (pre:List (List UInt8)) (W:World):Prop :=
 (∃ v,Boxed W bo 36 v∧W.ownsRow bo 3 1 v (Snd.q1t l.2 pre).length ((Snd.q1t l.2 pre).map (Qg .i64))∧True)∧Blk W b3 24 #[.string (bs l.1),.slice A l.2.length cap]∧Below w.heap.size w W
theorem nearI_own {w:World} {b3 bo:Nat} {l:WlP} {A:Option Addr} {cap B:Nat} (hB:w.heap.size≤B):OwnFrom B (λpre W=>NearI w b3 bo l A cap pre W):=by
 rintro pre W W' row ⟨⟨v,h1,h2,_⟩,h3,h9⟩ hg hr;have hr':∀ r,row=some r→∃ o:Obj,W.heap[r]? = some o∧o.isCells=false:=λr e=>(hr r e).2
 obtain ⟨v',k1,k2,_⟩:=holdsRow_own bo bo 36 3 1 (λpre:List (List UInt8)=>(Snd.q1t l.2 pre).length) (λpre=>(Snd.q1t l.2 pre).map (Qg .i64)) (λ_ _=>True) pre W W' row ⟨v,h1,h2,trivial⟩ hg hr'
 exact ⟨⟨v',k1,k2,trivial⟩,blk_kept h3 hg hr',h9.grown hg h9.size (λk e=>Qf hB (hr k e).1)⟩
theorem qm6 (ws pre:List (List UInt8)) (s:List UInt8):Snd.q1t ws (pre++[s])=Snd.q1t ws pre++Snd.qbo ws s:=by simp [Snd.q1t]
theorem find_len (ws:List (List UInt8)) (s:List UInt8):(Snd.qbo ws s).length≤1:=by
 unfold Snd.qbo;split <;> simp
theorem qgx (ws:List (List UInt8)):∀ l:List (List UInt8),(Snd.q1t ws l).length≤l.length
 | []=>Qa _
 | s::l=>by
  have h:=qgx ws l;have h2:=find_len ws s;have e:Snd.q1t ws (s::l)=Snd.qbo ws s++Snd.q1t ws l:=rfl;rw [e,Q7,Qc];omega
theorem cut_len (w:List UInt8) (i:Nat) (p:Snd.Conf):(Snd.q2y w i p).length≤1:=by
 unfold Snd.q2y;split <;> simp
theorem at_len (w:List UInt8) (i:Nat):∀ c:CfP,(Snd.atL c w i).length≤2*c.length
 | []=>Qa _
 | p::c=>by
  have h:=at_len w i c;have h1:=cut_len w i p;have h2:=cut_len w i (Snd.flip p);have e:Snd.atL (p::c) w i=(Snd.q2y w i p++Snd.q2y w i (Snd.flip p))++Snd.atL c w i:=rfl;rw [e,Q7,Q7,Qc];omega
theorem rest_len (w:List UInt8) (c:CfP):∀ f i,(Snd.q6r c w f i).length≤f*(2*c.length)
 | 0,i=>by simp [Snd.q6r]
 | f+1,i=>by
  have h:=rest_len w c f (i+1);have h1:=at_len w i c;rw [Snd.q6r,Q7,Nat.succ_mul];omega
theorem info_int:(Tryz.prog.info? 3).map (λi=>(i.zero,i.size,i.bytes))=some (some (.int .i64 0),1,8):=by kernel_rfl
theorem wl_info:(Tryz.prog.info? 24).map (·.size)=some 2:=by kernel_rfl
theorem qjl {W:World} {D base:Nat} {e:TypeId} {size k:Nat} {v:Value} {xs:List Value} {o:Obj} (h:W.heap[D]? = some o) (ho:o.isCells=false) (hrow:W.ownsRow base e size v k xs):some D≠v.ownBlock:=by
 intro e';rcases hrow.2 with ⟨rfl,_⟩ | ⟨g',cap,cur,rfl,_,h3,_⟩
 ·cases e'
 ·have:D=g':=by simpa [Qp] using e'
  subst this;rw [h3] at h;injection h with h;subst h;cases ho
theorem kpM_append {B0:Nat} {W w1:World} {base:Nat} {e:TypeId} {size k:Nat} {v:Value} {xs:List Value} {tmp:Obj} (hrow:W.ownsRow base e size v k xs) (hb:B0≤base) (hW:B0≤W.heap.size) (he:∀ cs fr,Mine (.cells cs e fr)=false)
  (hg:(W.alloc tmp).grownBy w1 v.ownBlock):KpM B0 W w1:=by
 refine ⟨λg hg'=>?_,?_,λg o ho hm=>?_⟩
 ·rw [hg.block g (by simp;omega) (λe'=>by have:=q1u hrow g e'.symm;omega)]
  exact Qk W tmp g (by omega)
 ·have:=hg.size
  simp at this;omega
 ·have hlt:g<W.heap.size:=(Q6.1 ho).1
  rw [hg.block g (by simp;omega) (λe'=>by
   rcases hrow.2 with ⟨rfl,_⟩ | ⟨g',cap,cur,rfl,_,h3,_⟩
   ·cases e'
   ·have:g=g':=by simpa [Qp] using e'
    subst this;rw [h3] at ho;injection ho with ho;subst ho;rw [he] at hm;cases hm)]
  rw [Qk W tmp g hlt];exact ho
theorem qks {r:List Int×Int} {w w1:World} (h:r=([],1)) (hb:Below w.heap.size w w1) (tmps:Array Value) (h6:tmps.getD 6 undef=.slice none 0 0) (h7:tmps.getD 7 undef=.int .i64 1) :
  ∃ v,(results Tryz.f124 tmps).run Tryz.prog w1=.ok v w1∧NearPost r w (.returned v) w1:=by
 refine ⟨_,results_tmp2 Tryz.results124 _ _ _,.slice none 0 0,?_,?_,hb⟩
 ·rw [h6,h7,h]
 ·rw [h];exact Qj _ _ _ _
set_option maxRecDepth 100000 in
set_option maxHeartbeats 2000000 in
theorem snear_any (l:WlP) (c:CfP) (x:List UInt8) (A B:Option Addr) (cap capB:Nat) (w:World) (hLW:q0j l) (hL:q0n c) (hA:qbv w A l.2) (hcap:l.2.length≤cap) (hB:CfAt w B c) (hx:x.length≤1000000) :
  Calls Tryz.prog 124 #[wlv l A cap,.slice B c.length capB,.string (bs x)] w (NearPost (Snd.q10 l.1 l.2 c x) w):=by
 refine (callsIn_wide (n:=6)).1 ?_;refine callsIn_of_wp_marks Tryz.func124 rfl trivial ?_ rfl;simp only [Tryz.ntmps124,List.size_toArray,Qc,List.length_nil,Nat.reduceAdd,Nat.reduceSub,Array.replicate_succ,Array.replicate_zero,List.push_toArray,List.append_toArray,List.nil_append,List.cons_append];refine wpIn_wide.2 ?_;have HLC:=Q0 hL;have HLW:=Q0 hLW;have HA:=Q0 hA;have HB:=Q0 hB;clear hL hA hLW hB;have hb3:=Blk.new w 24 #[.string (bs l.1),.slice A l.2.length cap];have hr3:(w.alloc (.cells #[.string (bs l.1),.slice A l.2.length cap] 24)).rangeAt w.heap.size 0 [.string (bs l.1),.slice A l.2.length cap]:=λi v hv=>by
  rw [Nat.zero_add];exact (hb3.cell i).trans (by rw [← hv];simp)
 have HR3:=Q0 hr3;have HB3:=Q0 hb3;clear hr3 hb3
 go_wp2_with (first | (refine wpList_load_mid rfl 24 _ rfl w.heap.size 0 rfl [.string (bs l.1),.slice A l.2.length cap] _ HR3.out Tryz.underlying24 rfl wl_info ?_))
 refine (svalid_any l A cap _ HLW.out (HA.out.bel (q0g (q06 w) _)) hcap).mono ?_;rintro e w1 ⟨rfl,hb1⟩;have hbw:Below w.heap.size w w1:=q4c (q0g (q06 w) _) hb1;have hB3:=HB3.out.bel hb1;have GB3:=Q0 hB3;have HBW:=Q0 hbw;clear hB3 hbw hb1 HR3 HB3;cases hv:Snd.q0c l.1 l.2
 ·have hr:Snd.q10 l.1 l.2 c x=([],1):=by unfold Snd.q10;rw [hv];rfl
  have HR:=Q0 hr;clear hr hv
  go_wp2
  exact qks HR.out HBW.out _ rfl rfl
 ·have HV:=Q0 hv
  clear hv
  go_wp2_with fail
  refine (qlv c B capB _ HLC.out (HB.out.bel HBW.out)).mono ?_;rintro e w2 ⟨rfl,hb2⟩;have hB3:=GB3.out.bel hb2;have hbw:=q4c HBW.out hb2;have HB3:=Q0 hB3;have GBW:=Q0 hbw;clear hB3 hbw hb2 GB3 HBW;cases hp:Snd.q0h c
  ·have hr:Snd.q10 l.1 l.2 c x=([],1):=by unfold Snd.q10;rw [HV.out,hp];rfl
   have HR:=Q0 hr;clear hr hp
   go_wp2
   exact qks HR.out GBW.out _ rfl rfl
  ·have HP:=Q0 hp
   clear hp
   go_wp2_with fail
   refine (qfz x 1 12 _ hx).mono ?_;rintro e w3 ⟨rfl,hb3⟩;have hB3:=HB3.out.bel hb3;have hbw:=q4c GBW.out hb3;have GB3:=Q0 hB3;have HBW:=Q0 hbw;clear hB3 hbw hb3 HB3 GBW;cases hx1:Snd.q0b x 1 12
   ·have hr:Snd.q10 l.1 l.2 c x=([],1):=by unfold Snd.q10 Snd.q9m;rw [HV.out,HP.out,hx1];rfl
    have HR:=Q0 hr;clear hr hx1
    go_wp2
    exact qks HR.out HBW.out _ rfl rfl
   ·have hr:Snd.q10 l.1 l.2 c x=(Snd.q3f l.2 c x l.2.length,0):=by unfold Snd.q10 Snd.q9m;rw [HV.out,HP.out,hx1];rfl
    have HR:=Q0 hr;have HX1:=Q0 hx1;clear hr hx1
    go_wp2_with fail
    refine (alike_mk c B capB x _).mono ?_;rintro e w' ⟨rfl,rfl⟩
    go_wp2
    have hbo:=((Boxed.new w3 36 (.slice none 0 0)).alloc (.cells #[.slice B c.length capB] 25)).alloc (.cells #[.string (bs x)] 9);have hb3:=((GB3.out.alloc (.cells #[.slice none 0 0] 36)).alloc (.cells #[.slice B c.length capB] 25)).alloc (.cells #[.string (bs x)] 9);have hsz3:=GB3.out.lt;have hbl:=q0g (q0g (q0g HBW.out (.cells #[.slice none 0 0] 36)) (.cells #[.slice B c.length capB] 25)) (.cells #[.string (bs x)] 9);have hlay:SLay (((w3.alloc (.cells #[.slice none 0 0] 36)).alloc (.cells #[.slice B c.length capB] 25)).alloc (.cells #[.string (bs x)] 9)) w.heap.size (w3.heap.size+1+1) (w3.heap.size+1) B capB c x:=by
     refine ⟨?_,?_,λhl=>?_⟩
     ·have:=Blk.new ((w3.alloc (.cells #[.slice none 0 0] 36)).alloc (.cells #[.slice B c.length capB] 25)) 9 #[.string (bs x)]
      simpa only [Ql] using this
     ·have:=(Blk.new (w3.alloc (.cells #[.slice none 0 0] 36)) 25 #[.slice B c.length capB]).alloc (.cells #[.string (bs x)] 9)
      simpa only [Ql] using this
     ·obtain ⟨g,off,h1,h2,h3⟩:=HB.out hl
      exact ⟨g,off,h1,h2,λj z hj=>⟨(hbl.cell (p:=⟨g,off+j*2,none⟩) h2).trans (h3 j z hj).1,(hbl.cell (p:=⟨g,off+j*2+1,none⟩) h2).trans (h3 j z hj).2⟩⟩
    have hz4:(((w3.alloc (.cells #[.slice none 0 0] 36)).alloc (.cells #[.slice B c.length capB] 25)).alloc (.cells #[.string (bs x)] 9)).heap.size=w3.heap.size+3:=by simp
    generalize ((w3.alloc (.cells #[.slice none 0 0] 36)).alloc (.cells #[.slice B c.length capB] 25)).alloc (.cells #[.string (bs x)] 9)=W3 at *
    generalize ebw:w3.heap.size+1+1=bw at *
    generalize ebl:w3.heap.size+1=bl at *
    generalize ebo:w3.heap.size=bo at *
    generalize eb3:w.heap.size=b3 at *
    have hlen:=HX1.out;unfold Snd.q0b at hlen;simp only [Qd,decide_eq_true_eq] at hlen;obtain ⟨hlet,_,hx12⟩:=hlen;have hval:=HV.out;unfold Snd.q0c at hval;simp only [Qd,decide_eq_true_eq] at hval;obtain ⟨_,hn1,hn4,_,hris⟩:=hval;obtain ⟨PL,hPL⟩:∃ PL,PL=Snd.q76 c x:=⟨_,rfl⟩;have hpl:PL.length≤100000000:=by
     have:=rest_len x c x.length 0
     have hcl:c.length≤1000000:=HLC.out.1;have h12:x.length≤12:=by omega
     have hm:x.length*(2*c.length)≤12*(2*c.length):=Nat.mul_le_mul_right _ h12;rw [hPL];unfold Snd.q76;rw [Qc];omega
    have hnear:Lib.compact ((Snd.q1t l.2 PL).mergeSort λa b=>decide (a≤b))=Snd.q3f l.2 c x l.2.length:=by rw [hPL];exact Snd.near_found hris HP.out x
    have HNEAR:=Q0 hnear;have HPL:=Q0 hPL;have HLET:=Q0 hlet;have HRIS:=Q0 hris;have HLAY:=Q0 hlay;have hseq:SeqStopsK Fence.wide (6-1) Tryz.prog 134 #[.pointer (some ⟨bw,0,none⟩),.pointer (some ⟨bl,0,none⟩)] (λs:List UInt8=>#[.string (bs s)]) (KpM b3) (λys=>ys=PL) (λpre=>pre <+: PL) PL.length W3:=λl' J Jx W hW hJ _ hY h0 =>
     alike_in (6-1) (by omega) l' b3 bw bl B capB c x (by omega) HLET.out HLC.out.1 HLC.out.2 J Jx PL HPL.out hY W (Qf (by omega) hW.size) hJ
      (HLAY.out.keep ⟨λg hg=>hW.block g (by omega),hW.size,λg o ho _=>(hW.block g (Q6.1 ho).1).trans ho⟩) h0
    have HSEQ:=Q0 hseq;have HBO:=Q0 hbo;have H3:=Q0 hb3;have HBL:=Q0 hbl;have hrowi:=info_parts info_int;obtain ⟨i0,hi0,hz0,hz1,hz2⟩:=hrowi;have hn6:l.2.length≤1000000:=HLW.out.2.1;clear hnear hPL hlet hris hlay hseq hbo hb3 hbl;refine (wpIn_wide (n:=6)).1 ?_;refine wpIn_rangeFunc_ownG (F:=Fence.wide) rfl (by omega) (gf:=134) (lb:=#[.pointer (some ⟨bw,0,none⟩),.pointer (some ⟨bl,0,none⟩)]) rfl trivial (enters_of Tryz.func134 (by kernel_rfl) rfl)
     HSEQ.out (λh k=>h.trans k) (λW l o o' hl hlo hc hw=>kpM_put o' (by omega) hlo hc hw) (Below.refl _ _) (λ_=>rfl)
     (λpre W=>NearI w b3 bo l A cap pre W)
     (λ_ _ _=>False)
     (nearI_own (by omega)) (λ_ _ _ _ _ h _ _=>h)
     ⟨⟨_,HBO.out,Qj _ _ _ _,trivial⟩,H3.out,by rw [eb3];exact HBL.out⟩
     (λs:List UInt8=>{ tmps:=#[wlv l A cap,.slice B c.length capB,.string (bs x),.pointer (some ⟨b3,0,none⟩),undef,undef,.slice none 0 0,.int .i64 0,.pointer (some ⟨bo,0,none⟩),.string (bs s),undef,undef,
      .agg #[.string (bs l.1),.slice A l.2.length cap],.bool true,.bool false,.bool false,.slice B c.length capB,.bool true,.bool false,.bool false,.bool false,.string (bs x),.bool true,.bool false,.bool false,
      .slice B c.length capB,.string (bs x),.func (.func 134) #[] #[.pointer (some ⟨bw,0,none⟩),.pointer (some ⟨bl,0,none⟩)],.string (bs s),undef,undef,undef,undef,undef,undef,undef,undef,undef,undef,undef,undef,undef,undef,undef,undef],defers:=[] }) ?assign ?body ?done ?stop
    case assign =>
     intro l s W K hK
     gi_wp2
     exact hK
    case body =>
     rintro l' pre s W ⟨⟨v,hv,hrow,_⟩,q3,qb⟩ hlen;obtain ⟨Ao,co,rfl⟩:=qcs hrow;have co0:=hv.cell;have co1:=hv.frozen;have k1:W.cell? ⟨b3,1,none⟩=some (.slice A l.2.length cap):=q3.cell 1;have hsW:=qb.size;have hboW:bo≤W.heap.size:=Nat.le_of_lt hv.lt;have hfl:=qgx l.2 pre;have hbs:=bs_any l.2 A cap s W (HA.out.bel qb) HRIS.out (by omega) hn6
     have HVB:=Q0 hv;have HROW:=Q0 hrow;have Q3:=Q0 q3;have QB:=Q0 qb;by_cases hfd:Snd.below l.2 s<l.2.length∧l.2.getD (Snd.below l.2 s) []=s
     ·rw [decide_eq_true hfd] at hbs
      have hfs:Snd.q1t l.2 (pre++[s])=Snd.q1t l.2 pre++[(Snd.below l.2 s:Int)]:=by rw [qm6];unfold Snd.qbo;rw [if_pos hfd]
      have hbn:Snd.below l.2 s<l.2.length:=hfd.1;have HFS:=Q0 hfs;have HBS:=Q0 hbs;clear hv hrow q3 qb hbs hfd hfs;generalize Snd.below l.2 s=kb at *
      gi_wp2_with (first
       | (refine ⟨trivial,?_⟩;gi_at_call 148;refine (Qn l' (callsIn_wide.2 HBS.out)).mono ?_;rintro e w' ⟨rfl,q,rfl⟩)
       | (gi_at_builtin;refine wpListIn_append_own _ rfl _ _ 36 rfl bo 3 i0 (.int .i64 0) 1 8 Tryz.underlying36 hi0 hz0 hz1 hz2 rfl (by decide) _ _ _ rfl (show ((W.drewN _).alloc _).ownsRow _ _ _ _ _ _ from HROW.out.alloc _) ⟨W.heap.size,0,none⟩ 1 1 [.int .i64 kb] rfl rfl (cell_one_new _ _ _) (by simp [Value.oneCell']) (by unfold maxLen;omega) (by omega) (by simp;omega) ?_;intro v' w5 hown' hgrow _;obtain ⟨g',cap',rfl⟩:=ownsRow_succ hown';obtain ⟨hv1,hv2,hr2,hk2,hb2⟩:=(show Boxed (W.drewN q) bo 36 _ from HVB.out).appended (by decide) (show (W.drewN q).ownsRow bo 3 1 _ _ _ from HROW.out) hboW (Qa _) hown' hgrow;have hc1:=hv1.cell;have hf1:=hv1.frozen))
      have hgr:((W.drewN q).alloc (.cells #[.int .i64 kb] 3)).grownBy w5 (Value.slice Ao (Snd.q1t l.2 pre).length co).ownBlock:=hgrow;have hb3W:b3≤(W.drewN q).heap.size:=by show b3≤W.heap.size;omega
      have hkp:=(kpM_append (show (W.drewN q).ownsRow bo 3 1 _ _ _ from HROW.out) (show b3≤bo by omega) hb3W (λ_ _=>rfl) hgr).trans (kpM_set (.slice (some ⟨g',0,none⟩) ((Snd.q1t l.2 pre).length+1) cap') (show b3≤bo by omega) hv1 rfl)
      have e3:=((show Blk (W.drewN q) b3 _ _ from Q3.out).alloc (.cells #[.int .i64 kb] 3)).grown hgr (λe=>by have:=q1u HROW.out b3 e.symm;omega)
      refine ⟨(show KeepsOthers W _ from ⟨hk2.size,hk2.same⟩).from _,⟨hkp.old,hkp.size,hkp.mine⟩,⟨_,hv2,?_,trivial⟩,e3.far (p:=⟨bo,0,none⟩) (by show b3≠bo;omega) _,(q2f QB.out q).trans (hb2.mono (by omega))⟩
      rw [HFS.out,List.map_append,Q7];exact hr2
     ·rw [decide_eq_false hfd] at hbs
      have hfs:Snd.q1t l.2 (pre++[s])=Snd.q1t l.2 pre:=by rw [qm6];unfold Snd.qbo;rw [if_neg hfd,Qh]
      have HFS:=Q0 hfs;have HBS:=Q0 hbs;clear hv hrow q3 qb hbs hfd hfs
      gi_wp2_with (refine ⟨trivial,?_⟩;gi_at_call 148;refine (Qn l' (callsIn_wide.2 HBS.out)).mono ?_;rintro e w' ⟨rfl,q,rfl⟩)
      exact ⟨(show KeepsOthers W (W.drewN _) from ⟨Qa _,λ_ _ h _=>h⟩).from _,⟨λ_ _=>rfl,Qa _,λ_ _ h _=>h⟩,⟨_,HVB.out,by rw [HFS.out];exact HROW.out,trivial⟩,Q3.out,q2f QB.out _⟩
    case done =>
     rintro D ys W hD rfl ⟨⟨v,hv,hrow,_⟩,q3,qb⟩ hK;obtain ⟨Ao,co,rfl⟩:=qcs hrow;have hfl:=qgx l.2 ys;dsimp only;have co0:=hv.cell;have HVB:=Q0 hv;have HROW:=Q0 hrow;have QB:=Q0 qb;have HK:=Q0 hK;clear hv hrow q3 qb hK
     go_wp2_with fail
     refine (sort_own HROW.out (by omega)).mono ?_
     rintro e W1 ⟨rfl,hrow1,hg1⟩;have hv1:=HVB.out.kept hg1 (HVB.out.not_row (by decide) HROW.out)
     have hk1:W1.heap[D]? = some (.deferred (some [])):=(hg1.block D (Q6.1 HK.out).1 (qjl HK.out rfl HROW.out)).trans HK.out;have hb1:Below w.heap.size w W1:=QB.out.grown hg1 QB.out.size (λk e=>by have:=q1u HROW.out k e;omega)
     have hsl:((Snd.q1t l.2 ys).mergeSort λa b=>decide (a≤b)).length=(Snd.q1t l.2 ys).length:=by simp
     have hrow1':W1.ownsRow bo 3 1 (.slice Ao (Snd.q1t l.2 ys).length co) ((Snd.q1t l.2 ys).mergeSort λa b=>decide (a≤b)).length (((Snd.q1t l.2 ys).mergeSort λa b=>decide (a≤b)).map (Qg .i64)):=by rw [hsl];exact hrow1
     have co1:=hv1.cell;have HROW1:=Q0 hrow1';have HK1:=Q0 hk1;have HB1:=Q0 hb1;clear hv1 hk1 hb1 hrow1 hrow1' hg1 co0
     go_wp2_with fail
     refine (compact_own HROW1.out (by omega)).mono ?_
     rintro e W2 ⟨v',rfl,hrow2,hg2⟩;have hk2:W2.heap[D]? = some (.deferred (some [])):=(hg2.block D (Q6.1 HK1.out).1 (qjl HK1.out rfl HROW1.out)).trans HK1.out;have hb2:Below w.heap.size w W2:=HB1.out.grown hg2 HB1.out.size (λk e=>by have:=q1u HROW1.out k e;omega)
     rw [HNEAR.out] at hrow2;have HROW2:=Q0 hrow2;have HK2:=Q0 hk2;have HB2:=Q0 hb2;clear hk2 hb2 hrow2 hg2
     go_wp2
     refine ⟨by simp,.inl ⟨D,_,rfl,run_takeDeferred HK2.out,?_⟩⟩
     refine ⟨_,results_tmp2 Tryz.results124 _ _ _,v',?_,?_,?_⟩
     ·rw [HR.out];rfl
     ·rw [HR.out]
      exact q8i (ownsRow_putObj HROW2.out (.deferred none) HK2.out rfl) (by omega)
     ·exact HB2.out.grown (grownBy_putObj' _ D _) HB2.out.size (λk e=>by cases e;omega)
    case stop =>
     rintro D cc pre W hD hpre hf hK;exact hf.elim
end Go.Proofs.YtlfaaoalgcbcoaaGreatDoor
namespace Go.Proofs.YtlfaaoalgcbcoaaGreatDoor
open Go.RowKit R
theorem ints_row {S:Nat→Prop} {w:World} {v:Value} {base:Nat} {e:TypeId} {ks:List Int} {n:Nat} (hn:n=ks.length) (h:w.ownsRow base e 1 v n (ks.map (Qg .i64))) (hS:∀ g,base≤g→g<w.heap.size→S g):Kd.Rep w S (.sl (.one (.int .i64))) ks v:=by
 subst hn;rcases h.2 with ⟨rfl,h0⟩ | ⟨g,cap,cur,rfl,hb,hg,hc,_,hsz,ht⟩
 ·refine ⟨none,0,by rw [h0],by rw [h0];exact Qa _,λhl=>?_⟩
  have hl:0<ks.length:=hl;omega
 ·have hlt:g<w.heap.size:=by
   rcases Nat.lt_or_ge g w.heap.size with h' | h'
   ·exact h'
   ·rw [Array.getElem?_eq_none h'] at hg;cases hg
  refine ⟨_,cap,rfl,hc,λhl=>⟨g,0,rfl,hlt,hS g hb hlt,λi x hx=>?_⟩⟩
  refine ⟨.int .i64 x,?_,rfl⟩;rw [show (Kds.one (Kd.int .i64)).size=1 from rfl,Qi,Nat.zero_add];have hil:i<ks.length:=by
   rcases Nat.lt_or_ge i ks.length with h' | h'
   ·exact h'
   ·have hx:ks[i]? = some x:=hx
    rw [List.getElem?_eq_none h'] at hx;cases hx
  have h1:(cur.toList.take (ks.length*1))[i]? = some (.int .i64 x):=by
   rw [ht,List.getElem?_map,show ks[i]? = some x from hx];rfl
  rw [Qi,List.getElem?_take,if_pos hil,Array.getElem?_toList] at h1;unfold World.cell?;simp [hg,h1]
theorem wl_rep {p:WlP} {κ:Cx} {w:World} {v:Value} (h:(CK.comp ckWl p).Rep κ w v):∃ A c,v=wlv p A c∧qbv w A p.2∧p.2.length≤c:=by
 obtain ⟨vs,rfl,hsz,hc,_⟩:=h;obtain ⟨u0,e0,r0⟩:=hc 0 _ rfl;obtain ⟨u1,e1,r1⟩:=hc 1 _ rfl;obtain rfl:u0=.string (bs p.1):=r0;obtain ⟨A,c,rfl,hcap,hi⟩:=r1;refine ⟨A,c,?_,λhl=>?_,hcap⟩
 ·obtain ⟨l⟩:=vs
  have hsz:l.length=2:=hsz
  match l,hsz with
  | [a,b],_ =>
   injection e0 with e0;injection e1 with e1;have e0:a=_:=e0;have e1:b=_:=e1;subst e0;subst e1;rfl
 ·obtain ⟨g,off,rfl,hg,_,hi⟩:=hi hl
  refine ⟨g,off,rfl,hg,λj s hj=>?_⟩
  obtain ⟨u,hu,hr⟩:=hi j s hj;obtain rfl:u=.string (bs s):=hr
  rwa [show (Kds.one Kd.str).size=1 from rfl,Qi] at hu
theorem qd3:qj0.Holds Tryz.prog:=by
 refine ⟨⟨⟨_,Tryz.func86,by kernel_rfl,by kernel_rfl⟩,λF' hF p r hr=>by injection hF with hF;subst hF;exact hr⟩,λp vs w S hS hp hvs=>?_⟩
 obtain ⟨v,rfl,hv⟩:=one_arg hvs;obtain ⟨A,c,rfl,hA⟩:=cf_rep (l:=p) hv;refine (qlv p A c w hp hA).mono ?_;rintro e w' ⟨rfl,hbl⟩;exact ⟨Snd.q0h p,_,rfl,rfl,rfl,hbl⟩
theorem qfu:cNear.Holds Tryz.prog:=by
 refine ⟨⟨⟨_,Tryz.func124,by kernel_rfl,by kernel_rfl⟩,λF' hF p r hr=>by injection hF with hF;subst hF;exact hr⟩,λp vs w S hS hp hvs=>?_⟩
 obtain ⟨l,c,x⟩:=p;obtain ⟨v,v2,v3,rfl,hv,hv2,hv3⟩:=qmp hvs;obtain ⟨A,cap,rfl,hA,hcap⟩:=wl_rep (p:=l) hv;obtain ⟨B,capB,rfl,hB⟩:=cf_rep (l:=c) hv2;obtain rfl:v3=.string (bs x):=hv3;refine (snear_any l c x A B cap capB w hp.1 hp.2.1 hA hcap hB hp.2.2).mono ?_;rintro e w' ⟨v,rfl,hrow,hbl⟩;refine ⟨Snd.q10 l.1 l.2 c x,_,rfl,rfl,⟨_,rfl,rfl,?_⟩,hbl⟩;have hr:=ints_row (S:=λg=>S g∨(w.heap.size≤g∧g<w'.heap.size)) rfl hrow (λg h1 h2=>.inr ⟨h1,h2⟩)
 intro i x hx
 match i,hx with
 | 0,hx=>injection hx with hx;subst hx;exact ⟨_,rfl,hr⟩
 | 1,hx=>injection hx with hx;subst hx;exact ⟨_,rfl,rfl⟩
abbrev q39 (e:Cod.Ear) (p_1:Nat×q03×q02×q0f×q04×Cod.Giv):Prop :=
 ((True∧True)∧(zE p_1.2.2.2.2.2.2.1∧True)∧(True∧True)∧(zE p_1.2.2.2.2.2.1∧zE p_1.2.2.2.2.2.2.1∧zE p_1.2.2.2.2.2.2.2.1∧zE p_1.2.2.2.2.2.2.2.2.1∧zE p_1.2.2.2.2.2.2.2.2.2∧True)∧(zE false∧True)∧(zE e.lang∧zE e.ws∧True∧zE e.c∧True)∧(zT4)∧(zE e.lang∧zE e.ws∧True)∧(zE p_1.2.2.2.2.2.1∧zE p_1.2.2.2.2.2.2.1∧zE p_1.2.2.2.2.2.2.2.1∧zE p_1.2.2.2.2.2.2.2.2.1∧zE p_1.2.2.2.2.2.2.2.2.2∧True)∧True)
abbrev q3d (e:Cod.Ear) (p_2:Nat×q03×q02×q0f×q04×Cod.Giv):Prop :=
 ((True∧True)∧(zE p_2.2.2.2.2.2.2.1∧True)∧(True∧True)∧(zE p_2.2.2.2.2.2.1∧zE p_2.2.2.2.2.2.2.1∧zE p_2.2.2.2.2.2.2.2.1∧zE p_2.2.2.2.2.2.2.2.2.1∧zE p_2.2.2.2.2.2.2.2.2.2∧True)∧(True∧True)∧(zE e.lang∧zE e.ws∧True∧zE e.c∧True)∧(zT4)∧(zE e.lang∧zE e.ws∧True)∧(zE p_2.2.2.2.2.2.1∧zE p_2.2.2.2.2.2.2.1∧zE p_2.2.2.2.2.2.2.2.1∧zE p_2.2.2.2.2.2.2.2.2.1∧zE p_2.2.2.2.2.2.2.2.2.2∧True)∧True)
abbrev q4k (e:Cod.Ear):Prop :=
 ((zE e.lang∧zE e.ws∧True∧zE e.c∧True)∧(zE e.lang∧zE e.ws∧True)∧(zE e.lang∧zE e.ws∧True)∧True)
abbrev q44 (book:q13) (p_2:Nat×q03×q02×q0f×q04×Cod.Giv):Prop :=
 (True∧True∧True∧True∧zE book∧zE (↑(Q5 book):Int)∧zE (p_2.1:Int)∧True∧True)
abbrev qew (e:Cod.Ear) (p':Nat×q02×q04) (p_2:Nat×q03×q02×q0f×q04×Cod.Giv) (p_3:Nat×q03×q02×q04) (p_4:Nat×q02×q04):Prop :=
 ((p_4.1:Int)+1=(p'.1:Int)∧True∧True∧True∧True∧zE (p_3.1:Int)∧zE (p_2.2.2.2.2.2.2.1.getD (p_3.1:Int).toNat (0:Int))∧zE p_2.2.2.2.2.2.2.1∧zE (p_2.2.2.2.2.2.2.1.length:Int)∧zE (p_3.1:Int)∧zE (e.near (p_2.2.2.2.2.2.2.1.getD (p_3.1:Int).toNat (0:Int)))∧zE (↑(e.near (p_2.2.2.2.2.2.2.1.getD (p_3.1:Int).toNat (0:Int))).length:Int)∧True)
abbrev q7k (book:q13) (p_1:Nat×q03×q02×q0f×q04×Cod.Giv):Prop :=
 (True∧True∧True∧True∧True∧zE book∧zE (↑(Q5 book):Int)∧zE (p_1.1:Int)∧zE false∧True)
abbrev q9y (e:Cod.Ear) (p':Nat×q03×q02×q04) (p_2:Nat×q03×q02×q0f×q04×Cod.Giv):Prop :=
 (p'.1≤p_2.2.2.2.2.2.2.1.length∧q0a e p'.2.1∧q0w [] p_2.2.2.2.2.1 p_2.2.2.2.2.2 (e.q0i p_2.2.2.2.2.2.2.1 p'.1 (0:Nat)) p'.2.2.1 p'.2.2.2)
abbrev qca (e:Cod.Ear) (p':Nat×q02×q04) (p_2:Nat×q03×q02×q0f×q04×Cod.Giv) (p_3:Nat×q03×q02×q04):Prop :=
 (p'.1≤(e.near (p_2.2.2.2.2.2.2.1.getD (p_3.1:Int).toNat (0:Int))).length∧q0w p_3.2.2.1 p_3.2.2.2 p_2.2.2.2.2.2 (q0y e p_2.2.2.2.2.2.2.1 (p_3.1:Int).toNat p'.1) p'.2.1 p'.2.2)
abbrev zCoG0_8 (p:Nat×q03×q02×q04) (p':Nat) (p_1:Nat×q03×q02×q0f×q04×Cod.Giv):Prop :=
 (p'≤((getK (Cod.key ((p_1.2.2.2.2.2.2.1.set (p.1:Int).toNat (p_1.2.2.2.2.2.2.1.getD ((p.1:Int)-1).toNat (0:Int))).set ((p.1:Int)-1).toNat (p_1.2.2.2.2.2.2.1.getD (p.1:Int).toNat (0:Int)))) p_1.2.2.2.2.1).getD []).length∧((Q4 p' ((getK (Cod.key ((p_1.2.2.2.2.2.2.1.set (p.1:Int).toNat (p_1.2.2.2.2.2.2.1.getD ((p.1:Int)-1).toNat (0:Int))).set ((p.1:Int)-1).toNat (p_1.2.2.2.2.2.2.1.getD (p.1:Int).toNat (0:Int)))) p_1.2.2.2.2.1).getD [])).any λ(o:List UInt8×List Int×Bool×Int×Int)=>Cod.q0o o p_1.2.2.2.2.2)=false)
abbrev zCoG0_9 (book:q13) (e:Cod.Ear) (p:Nat×q03×q02×q04) (p_1:Nat×q03×q02×q0f×q04×Cod.Giv) (p_3:Nat×q02×q04):Prop :=
 (True∧True∧True∧zE false∧True∧True∧True∧True∧zE (p.1:Int)∧zE (p_1.2.2.2.2.2.2.1.getD (p.1:Int).toNat (0:Int))∧zE p_1.2.2.2.2.2.2.1∧zE (p_1.2.2.2.2.2.2.1.length:Int)∧zE (p.1:Int)∧zE (e.near (p_1.2.2.2.2.2.2.1.getD (p.1:Int).toNat (0:Int)))∧zE (↑(e.near (p_1.2.2.2.2.2.2.1.getD (p.1:Int).toNat (0:Int))).length:Int)∧zE (p_3.1:Int)∧zE true∧True∧True∧True∧True∧True∧zE book∧zE (↑(Q5 book):Int)∧zE (p_1.1:Int)∧zE false∧True)
abbrev ql1 (book:q13) (e:Cod.Ear) (p:Nat×q03×q02×q04) (p_1:Nat×q03×q02×q0f×q04×Cod.Giv) (p_3:Nat×q02×q04):Prop :=
 (True∧True∧True∧zE false∧True∧True∧True∧True∧zE (p.1:Int)∧zE (p_1.2.2.2.2.2.2.1.getD (p.1:Int).toNat (0:Int))∧zE p_1.2.2.2.2.2.2.1∧zE (p_1.2.2.2.2.2.2.1.length:Int)∧zE (p.1:Int)∧zE (e.near (p_1.2.2.2.2.2.2.1.getD (p.1:Int).toNat (0:Int)))∧zE (↑(e.near (p_1.2.2.2.2.2.2.1.getD (p.1:Int).toNat (0:Int))).length:Int)∧zE (p_3.1:Int)∧True∧True∧True∧True∧True∧True∧zE book∧zE (↑(Q5 book):Int)∧zE (p_1.1:Int)∧zE false∧True)
abbrev qa6 (p':Nat×q03×q02×q04) (p_2:Nat×q03×q02×q0f×q04×Cod.Giv) (p_3:Nat×q03×q02×q04):Prop :=
 ((p_3.1:Int)+1=(p'.1:Int)∧True∧True∧True∧True∧zE p_2.2.2.2.2.2.2.1∧zE (p_2.2.2.2.2.2.2.1.length:Int)∧True)
abbrev q8a (book:q13) (e:Cod.Ear):Prop :=
 (True∧Snd.q0h e.c=(Snd.q0c e.lang e.ws&&Snd.q0h e.c)∧zE book∧True∧True)
abbrev qkh (book:q13) (p:Nat×q03×q02×q04) (p_1:Nat×q03×q02×q0f×q04×Cod.Giv):Prop :=
 (True∧True∧True∧zE false∧True∧True∧True∧True∧zE (p.1:Int)∧zE (p_1.2.2.2.2.2.2.1.getD (p.1:Int).toNat (0:Int))∧zE p_1.2.2.2.2.2.2.1∧zE (p_1.2.2.2.2.2.2.1.length:Int)∧zE (p.1:Int)∧True∧True∧True∧True∧True∧True∧True∧True∧True∧zE book∧zE (↑(Q5 book):Int)∧zE (p_1.1:Int)∧zE false∧True)
abbrev qkr (e:Cod.Ear) (p:Nat×q03×q02×q04) (p':Nat) (p_1:Nat×q03×q02×q0f×q04×Cod.Giv) (p_3:Nat×q02×q04):Prop :=
 (p'≤((getK (Cod.key (p_1.2.2.2.2.2.2.1.set (p.1:Int).toNat ((e.near (p_1.2.2.2.2.2.2.1.getD (p.1:Int).toNat (0:Int))).getD (p_3.1:Int).toNat (0:Int)))) p_1.2.2.2.2.1).getD []).length∧((Q4 p' ((getK (Cod.key (p_1.2.2.2.2.2.2.1.set (p.1:Int).toNat ((e.near (p_1.2.2.2.2.2.2.1.getD (p.1:Int).toNat (0:Int))).getD (p_3.1:Int).toNat (0:Int)))) p_1.2.2.2.2.1).getD [])).any λ(o:List UInt8×List Int×Bool×Int×Int)=>Cod.q0o o p_1.2.2.2.2.2)=false)
abbrev qfg (p:q03) (p':Nat×q03×q02×q04) (p_2:Nat×q03×q02×q0f×q04×Cod.Giv) (p_5:q02×q04):Prop :=
 (p_5.1=p'.2.2.1∧p=p'.2.1∧zE (putK (Cod.key p_2.2.2.2.2.2.2.1) true p_2.2.2.1)∧Mp.put (λ(x x_1:List UInt8)=>x==x_1) p_2.2.2.2.2.2.1 true p_2.2.2.2.1=Mp.put (λ(x x_1:List UInt8)=>x==x_1) p_2.2.2.2.2.2.1 true p_2.2.2.2.1∧True)
abbrev q86 (book:q13) (e:Cod.Ear):Prop :=
 (True∧false=(Snd.q0c e.lang e.ws&&Snd.q0h e.c)∧zE book∧True∧True)
abbrev qg9 (p_2:Nat×q03×q02×q0f×q04×Cod.Giv) (p_3:Nat×q03×q02×q04):Prop :=
 (True∧True∧True∧True∧zE (p_3.1:Int)∧zE (p_2.2.2.2.2.2.2.1.getD (p_3.1:Int).toNat (0:Int))∧zE p_2.2.2.2.2.2.2.1∧zE (p_2.2.2.2.2.2.2.1.length:Int)∧zE (p_3.1:Int)∧True)
abbrev qcm (e:Cod.Ear) (p':Nat×q03×q02×q04) (p_1:Nat×q03×q02×q0f×q04×Cod.Giv):Prop :=
 (p'.1≤p_1.2.2.2.2.2.2.1.length∧q0a e p'.2.1∧(e.q0i p_1.2.2.2.2.2.2.1 p'.1 (0:Nat)).all (q0x p_1.2.2.1 p_1.2.2.2.2.1 p_1.2.2.2.2.2)=true)
abbrev qkj (p:q03) (p':Nat×q03×q02×q04) (p_2:Nat×q03×q02×q0f×q04×Cod.Giv) (p_3:Nat×q03×q02×q04) (p_5:q02×q04):Prop :=
 (putK (Cod.key ((p_2.2.2.2.2.2.2.1.set (p_3.1:Int).toNat (p_2.2.2.2.2.2.2.1.getD ((p_3.1:Int)-1).toNat (0:Int))).set ((p_3.1:Int)-1).toNat (p_2.2.2.2.2.2.2.1.getD (p_3.1:Int).toNat (0:Int)))) true p_5.1=p'.2.2.1∧p=p'.2.1∧zE (putK (Cod.key p_2.2.2.2.2.2.2.1) true p_2.2.2.1)∧Mp.put (λ(x x_1:List UInt8)=>x==x_1) p_2.2.2.2.2.2.1 true p_2.2.2.2.1=Mp.put (λ(x x_1:List UInt8)=>x==x_1) p_2.2.2.2.2.2.1 true p_2.2.2.2.1∧True)
abbrev qkm (book:q13) (p:Nat×q03×q02×q04) (p_1:Nat×q03×q02×q0f×q04×Cod.Giv):Prop :=
 (True∧True∧True∧True∧zE (p.1:Int)∧zE (p_1.2.2.2.2.2.2.1.getD (p.1:Int).toNat (0:Int))∧zE p_1.2.2.2.2.2.2.1∧zE (p_1.2.2.2.2.2.2.1.length:Int)∧zE (p.1:Int)∧True∧True∧True∧True∧True∧True∧True∧True∧True∧zE book∧zE (↑(Q5 book):Int)∧zE (p_1.1:Int)∧zE false∧True)
abbrev qkk (book:q13) (p_2:Nat×q03×q02×q0f×q04×Cod.Giv) (p_3:Nat×q03×q02×q04):Prop :=
 (True∧True∧True∧True∧zE (p_3.1:Int)∧zE (p_2.2.2.2.2.2.2.1.getD (p_3.1:Int).toNat (0:Int))∧zE p_2.2.2.2.2.2.2.1∧zE (p_2.2.2.2.2.2.2.1.length:Int)∧zE (p_3.1:Int)∧True∧True∧True∧True∧True∧True∧True∧True∧zE book∧zE (↑(Q5 book):Int)∧zE (p_2.1:Int)∧True∧True)
abbrev qli (e:Cod.Ear) (p:Nat×q03×q02×q04) (p':Nat×q02×q04) (p_1:Nat×q03×q02×q0f×q04×Cod.Giv) (p_3:Nat×q02×q04):Prop :=
 ((p_3.1:Int)+1=(p'.1:Int)∧True∧True∧True∧True∧zE (p.1:Int)∧zE (p_1.2.2.2.2.2.2.1.getD (p.1:Int).toNat (0:Int))∧zE p_1.2.2.2.2.2.2.1∧zE (p_1.2.2.2.2.2.2.1.length:Int)∧zE (p.1:Int)∧zE (e.near (p_1.2.2.2.2.2.2.1.getD (p.1:Int).toNat (0:Int)))∧zE (↑(e.near (p_1.2.2.2.2.2.2.1.getD (p.1:Int).toNat (0:Int))).length:Int)∧True)
abbrev q4u (p_1:Nat×q03×q02×q0f×q04×Cod.Giv) (p_2:q03):Prop :=
 (zE p_2∧zE p_1.2.2.1∧zE p_1.2.2.2.1∧True)
abbrev qfv (e:Cod.Ear) (p:Nat×q03×q02×q04) (p':Nat×q02×q04) (p_1:Nat×q03×q02×q0f×q04×Cod.Giv):Prop :=
 (p'.1≤(e.near (p_1.2.2.2.2.2.2.1.getD (p.1:Int).toNat (0:Int))).length∧(q0y e p_1.2.2.2.2.2.2.1 (p.1:Int).toNat p'.1).all (q0x p_1.2.2.1 p_1.2.2.2.2.1 p_1.2.2.2.2.2)=true)
abbrev qki (e:Cod.Ear) (p:q03) (p':Nat×q02×q04) (p_2:Nat×q03×q02×q0f×q04×Cod.Giv) (p_3:Nat×q03×q02×q04) (p_4:Nat×q02×q04):Prop :=
 (putK (Cod.key (p_2.2.2.2.2.2.2.1.set (p_3.1:Int).toNat ((e.near (p_2.2.2.2.2.2.2.1.getD (p_3.1:Int).toNat (0:Int))).getD (p_4.1:Int).toNat (0:Int)))) true p_4.2.1=p'.2.1∧p=p∧zE (putK (Cod.key p_2.2.2.2.2.2.2.1) true p_2.2.2.1)∧Mp.put (λ(x x_1:List UInt8)=>x==x_1) p_2.2.2.2.2.2.1 true p_2.2.2.2.1=Mp.put (λ(x x_1:List UInt8)=>x==x_1) p_2.2.2.2.2.2.1 true p_2.2.2.2.1∧True)
abbrev ql7 (p:Nat×q03×q02×q04) (p':Nat) (p_1:Nat×q03×q02×q0f×q04×Cod.Giv):Prop :=
 (p'≤((getK (Cod.key (p_1.2.2.2.2.2.2.1.eraseIdx (p.1:Int).toNat)) p_1.2.2.2.2.1).getD []).length∧((Q4 p' ((getK (Cod.key (p_1.2.2.2.2.2.2.1.eraseIdx (p.1:Int).toNat)) p_1.2.2.2.2.1).getD [])).any λ(o:List UInt8×List Int×Bool×Int×Int)=>Cod.q0o o p_1.2.2.2.2.2)=false)
set_option maxRecDepth 100000 in
theorem proper_vc (e:Cod.Ear) (book:q13) (h:qg4.pre ((e.lang,e.ws),e.c,book)) :
  (((q0j (e.lang,e.ws)∧bif Snd.q0c e.lang e.ws then q0n e.c∧∃ (p':Unit),True∧(q8a book e)∧(q4k e)∧True∧True∧(([]:q03)=[]∧True)∧zT5 else ∃ (p':Unit),True∧(q86 book e)∧(q4k e)∧True∧True∧(([]:q03)=[]∧True)∧zT5)∧q0j (e.lang,e.ws)∧bif Snd.q0c e.lang e.ws then (q0n e.c∧∃ (p':Unit),True∧(q8a book e)∧(q4k e)∧True∧True∧(([]:q03)=[]∧True)∧zT5)∧q0n e.c∧∃ (p':Unit),True∧(q8a book e)∧(q4k e)∧True∧True∧(([]:q03)=[]∧True)∧zT5 else (∃ (p':Unit),True∧(q86 book e)∧(q4k e)∧True∧True∧(([]:q03)=[]∧True)∧zT5)∧∃ (p':Unit),True∧(q86 book e)∧(q4k e)∧True∧True∧(([]:q03)=[]∧True)∧zT5)∧q0j (e.lang,e.ws)∧bif Snd.q0c e.lang e.ws then ((q0n e.c∧∃ (p':Unit),True∧(q8a book e)∧(q4k e)∧True∧True∧(([]:q03)=[]∧True)∧zT5)∧q0n e.c∧∃ (p':Unit),True∧(q8a book e)∧(q4k e)∧True∧True∧(([]:q03)=[]∧True)∧zT5)∧q0n e.c∧∃ (p':Unit),True∧(q8a book e)∧(q4k e)∧True∧True∧(([]:q03)=[]∧True)∧zT5 else ((∃ (p':Unit),True∧(q86 book e)∧(q4k e)∧True∧True∧(([]:q03)=[]∧True)∧zT5)∧∃ (p':Unit),True∧(q86 book e)∧(q4k e)∧True∧True∧(([]:q03)=[]∧True)∧zT5)∧∃ (p':Unit),True∧(q86 book e)∧(q4k e)∧True∧True∧(([]:q03)=[]∧True)∧zT5)∧∀ (p:Unit),True→bif !(Snd.q0c e.lang e.ws&&Snd.q0h e.c) then false=e.proper book else bif decide ((20000:Int)<(↑(Q5 book):Int)) then false=e.proper book else (∃ (p':Nat×q03×q02×q0f×q04),(p'.1≤Q5 book∧q0a e p'.2.1∧q27 (Q4 p'.1 book) p'.2.2.1∧q2d (Q4 p'.1 book) p'.2.2.2.1∧q2e e (Q4 p'.1 book) p'.2.2.2.2∧e.shelf [] (Q4 p'.1 book)=true)∧((0:Int)=(p'.1:Int)∧True∧True∧True∧zE book∧zE (↑(Q5 book):Int)∧True)∧((zE e.lang∧zE e.ws∧True)∧(zE e.lang∧zE e.ws∧True∧zE e.c∧True)∧(zT4)∧(zE e.lang∧zE e.ws∧True)∧True)∧True∧True∧([]=p'.2.1∧[]=p'.2.2.1∧[]=p'.2.2.2.1∧True)∧True∧True∧True∧[]=p'.2.2.2.2∧True)∧∀ (p:Nat×q03×q02×q0f×q04),p.1≤Q5 book∧q0a e p.2.1∧q27 (Q4 p.1 book) p.2.2.1∧q2d (Q4 p.1 book) p.2.2.2.1∧q2e e (Q4 p.1 book) p.2.2.2.2∧e.shelf [] (Q4 p.1 book)=true→bif decide ((p.1:Int)<(↑(Q5 book):Int)) then ((0≤(p.1:Int)∧(p.1:Int)<(↑(Q5 book):Int))∧∃ (p':Nat×q03×q02×q0f×q04×Cod.Giv),(p'.1=(p.1:Int).toNat∧p'.1<Q5 book∧p'.2.2.2.2.2=Q8 book p'.1 Cod.noG∧q0a e p'.2.1∧q27 (Q4 p'.1 book) p'.2.2.1∧q2d (Q4 p'.1 book) p'.2.2.2.1∧q2e e (Q4 p'.1 book) p'.2.2.2.2.1∧e.shelf [] (Q4 p'.1 book)=true)∧(True∧(p.1:Int)=(p'.1:Int)∧True∧True∧True∧zE book∧zE (↑(Q5 book):Int)∧True)∧(((Q8 book (p.1:Int).toNat Cod.noG).1=p'.2.2.2.2.2.1∧(Q8 book (p.1:Int).toNat Cod.noG).2.1=p'.2.2.2.2.2.2.1∧(Q8 book (p.1:Int).toNat Cod.noG).2.2.1=p'.2.2.2.2.2.2.2.1∧(Q8 book (p.1:Int).toNat Cod.noG).2.2.2.1=p'.2.2.2.2.2.2.2.2.1∧(Q8 book (p.1:Int).toNat Cod.noG).2.2.2.2=p'.2.2.2.2.2.2.2.2.2∧True)∧(zE e.lang∧zE e.ws∧True)∧(zE e.lang∧zE e.ws∧True∧zE e.c∧True)∧(zT4)∧(zE e.lang∧zE e.ws∧True)∧True)∧True∧True∧(p.2.1=p'.2.1∧p.2.2.1=p'.2.2.1∧p.2.2.2.1=p'.2.2.2.1∧True)∧True∧True∧True∧p.2.2.2.2=p'.2.2.2.2.1∧True)∧∀ (p_1:Nat×q03×q02×q0f×q04×Cod.Giv),p_1.1=(p.1:Int).toNat∧p_1.1<Q5 book∧p_1.2.2.2.2.2=Q8 book p_1.1 Cod.noG∧q0a e p_1.2.1∧q27 (Q4 p_1.1 book) p_1.2.2.1∧q2d (Q4 p_1.1 book) p_1.2.2.2.1∧q2e e (Q4 p_1.1 book) p_1.2.2.2.2.1∧e.shelf [] (Q4 p_1.1 book)=true→(p_1.2.2.2.2.2.1.length≤(1000:Nat)∧bif !Lx.q0v p_1.2.2.2.2.2.1 then false=e.proper book else bif (Mp.get (λ(x x_1:List UInt8)=>x==x_1) p_1.2.2.2.2.2.1 p_1.2.2.2.1).getD false then false=e.proper book else True∧bif !Cod.q1g p_1.2.2.2.2.2 then false=e.proper book else (q0j (e.lang,e.ws)∧p_1.2.2.2.2.2.2.1.length≤(1000000:Nat))∧bif !Cod.q0q e.lang e.ws p_1.2.2.2.2.2.2.1 then false=e.proper book else True∧bif (getK (Cod.key p_1.2.2.2.2.2.2.1) p_1.2.2.1).getD false then false=e.proper book else bif decide ((0:Int)<(↑((getK (Cod.key p_1.2.2.2.2.2.2.1) p_1.2.2.2.2.1).getD []).length:Int)) then false=e.proper book else (∃ (p':Nat×q03×q02×q04),(qcm e p' p_1)∧((0:Int)=(p'.1:Int)∧True∧True∧True∧True∧zE p_1.2.2.2.2.2.2.1∧zE (p_1.2.2.2.2.2.2.1.length:Int)∧True)∧(q39 e p_1)∧True∧True∧(p_1.2.1=p'.2.1∧zE p_1.2.2.1∧zE p_1.2.2.2.1∧True)∧(q7k book p_1)∧True∧True∧zE p_1.2.2.2.2.1∧True∧(zT4)∧True)∧∀ (p:Nat×q03×q02×q04),p.1≤p_1.2.2.2.2.2.2.1.length∧q0a e p.2.1∧(e.q0i p_1.2.2.2.2.2.2.1 p.1 (0:Nat)).all (q0x p_1.2.2.1 p_1.2.2.2.2.1 p_1.2.2.2.2.2)=true→bif decide ((p.1:Int)<(p_1.2.2.2.2.2.2.1.length:Int)) then (0≤(p.1:Int)∧(p.1:Int)<(p_1.2.2.2.2.2.2.1.length:Int))∧(bif !(Mp.get (λ(x x_1:Int)=>x==x_1) (p_1.2.2.2.2.2.2.1.getD (p.1:Int).toNat (0:Int)) p.2.1).isSome then ((0:Int)≤p_1.2.2.2.2.2.2.1.getD (p.1:Int).toNat (0:Int)∧p_1.2.2.2.2.2.2.1.getD (p.1:Int).toNat 0<(e.ws.length:Int))∧(q0j (e.lang,e.ws)∧q0n e.c∧(e.ws.getD (p_1.2.2.2.2.2.2.1.getD (p.1:Int).toNat (0:Int)).toNat []).length≤(1000000:Nat))∧∃ (p':q03),q0a e p'∧((Snd.q10 e.lang e.ws e.c (e.ws.getD (p_1.2.2.2.2.2.2.1.getD (p.1:Int).toNat (0:Int)).toNat [])).1=e.near (p_1.2.2.2.2.2.2.1.getD (p.1:Int).toNat (0:Int))∧True)∧(q39 e p_1)∧True∧True∧(Mp.put (λ(x x_1:Int)=>x==x_1) (p_1.2.2.2.2.2.2.1.getD (p.1:Int).toNat (0:Int)) (Snd.q10 e.lang e.ws e.c (e.ws.getD (p_1.2.2.2.2.2.2.1.getD (p.1:Int).toNat (0:Int)).toNat [])).1 p.2.1=p'∧zE p_1.2.2.1∧zE p_1.2.2.2.1∧True)∧(qkm book p p_1)∧True∧True∧zE p_1.2.2.2.2.1∧True∧(zT4)∧True else ∃ (p':q03),q0a e p'∧((Mp.get (λ(x x_1:Int)=>x==x_1) (p_1.2.2.2.2.2.2.1.getD (p.1:Int).toNat (0:Int)) p.2.1).getD []=e.near (p_1.2.2.2.2.2.2.1.getD (p.1:Int).toNat (0:Int))∧True)∧(q39 e p_1)∧True∧True∧(p.2.1=p'∧zE p_1.2.2.1∧zE p_1.2.2.2.1∧True)∧(qkm book p p_1)∧True∧True∧zE p_1.2.2.2.2.1∧True∧(zT4)∧True)∧∀ (p_2:q03),q0a e p_2→(∃ (p':Nat×q02×q04),(qfv e p p' p_1)∧((0:Int)=(p'.1:Int)∧True∧True∧True∧True∧zE (p.1:Int)∧zE (p_1.2.2.2.2.2.2.1.getD (p.1:Int).toNat (0:Int))∧zE p_1.2.2.2.2.2.2.1∧zE (p_1.2.2.2.2.2.2.1.length:Int)∧zE (p.1:Int)∧zE (e.near (p_1.2.2.2.2.2.2.1.getD (p.1:Int).toNat (0:Int)))∧zE (↑(e.near (p_1.2.2.2.2.2.2.1.getD (p.1:Int).toNat (0:Int))).length:Int)∧True)∧(q39 e p_1)∧True∧True∧(q4u p_1 p_2)∧(q7k book p_1)∧True∧True∧zE p_1.2.2.2.2.1∧True∧(zT4)∧True)∧∀ (p_3:Nat×q02×q04),p_3.1≤(e.near (p_1.2.2.2.2.2.2.1.getD (p.1:Int).toNat (0:Int))).length∧(q0y e p_1.2.2.2.2.2.2.1 (p.1:Int).toNat p_3.1).all (q0x p_1.2.2.1 p_1.2.2.2.2.1 p_1.2.2.2.2.2)=true→bif decide ((p_3.1:Int)<(↑(e.near (p_1.2.2.2.2.2.2.1.getD (p.1:Int).toNat (0:Int))).length:Int)) then (0≤(p_3.1:Int)∧(p_3.1:Int)<(↑(e.near (p_1.2.2.2.2.2.2.1.getD (p.1:Int).toNat (0:Int))).length:Int))∧bif (e.near (p_1.2.2.2.2.2.2.1.getD (p.1:Int).toNat (0:Int))).getD (p_3.1:Int).toNat (0:Int) != p_1.2.2.2.2.2.2.1.getD (p.1:Int).toNat (0:Int) then p_1.2.2.2.2.2.2.1.length≤(1000000:Nat)∧(0≤(p.1:Int)∧(p.1:Int)<(p_1.2.2.2.2.2.2.1.length:Int))∧bif (p.1:Int).toNat.beq (p.1:Int).toNat then True∧bif (getK (Cod.key (p_1.2.2.2.2.2.2.1.set (p.1:Int).toNat ((e.near (p_1.2.2.2.2.2.2.1.getD (p.1:Int).toNat (0:Int))).getD (p_3.1:Int).toNat (0:Int)))) p_1.2.2.1).getD false then false=e.proper book else (∃ (p':Nat),(qkr e p p' p_1 p_3)∧((0:Int)=(p':Int)∧zE (Cod.key (p_1.2.2.2.2.2.2.1.set (p.1:Int).toNat ((e.near (p_1.2.2.2.2.2.2.1.getD (p.1:Int).toNat (0:Int))).getD (p_3.1:Int).toNat (0:Int))))∧True∧zE (↑((getK (Cod.key (p_1.2.2.2.2.2.2.1.set (p.1:Int).toNat ((e.near (p_1.2.2.2.2.2.2.1.getD (p.1:Int).toNat (0:Int))).getD (p_3.1:Int).toNat (0:Int)))) p_1.2.2.2.2.1).getD []).length:Int)∧True)∧(q39 e p_1)∧True∧True∧(q4u p_1 p_2)∧(zCoG0_9 book e p p_1 p_3)∧True∧True∧zE p_1.2.2.2.2.1∧True∧(zT4)∧True)∧∀ (p_4:Nat),p_4≤((getK (Cod.key (p_1.2.2.2.2.2.2.1.set (p.1:Int).toNat ((e.near (p_1.2.2.2.2.2.2.1.getD (p.1:Int).toNat (0:Int))).getD (p_3.1:Int).toNat (0:Int)))) p_1.2.2.2.2.1).getD []).length∧((Q4 p_4 ((getK (Cod.key (p_1.2.2.2.2.2.2.1.set (p.1:Int).toNat ((e.near (p_1.2.2.2.2.2.2.1.getD (p.1:Int).toNat (0:Int))).getD (p_3.1:Int).toNat (0:Int)))) p_1.2.2.2.2.1).getD [])).any λ(o:List UInt8×List Int×Bool×Int×Int)=>Cod.q0o o p_1.2.2.2.2.2)=false→bif decide ((p_4:Int)<(↑((getK (Cod.key (p_1.2.2.2.2.2.2.1.set (p.1:Int).toNat ((e.near (p_1.2.2.2.2.2.2.1.getD (p.1:Int).toNat (0:Int))).getD (p_3.1:Int).toNat (0:Int)))) p_1.2.2.2.2.1).getD []).length:Int)) then (0≤(p_4:Int)∧(p_4:Int)<(↑((getK (Cod.key (p_1.2.2.2.2.2.2.1.set (p.1:Int).toNat ((e.near (p_1.2.2.2.2.2.2.1.getD (p.1:Int).toNat (0:Int))).getD (p_3.1:Int).toNat (0:Int)))) p_1.2.2.2.2.1).getD []).length:Int))∧True∧bif Cod.q0o (((getK (Cod.key (p_1.2.2.2.2.2.2.1.set (p.1:Int).toNat ((e.near (p_1.2.2.2.2.2.2.1.getD (p.1:Int).toNat (0:Int))).getD (p_3.1:Int).toNat (0:Int)))) p_1.2.2.2.2.1).getD []).getD (p_4:Int).toNat Cod.noG) p_1.2.2.2.2.2 then false=e.proper book else (zFit ((p_4:Int)+1))∧∃ (p':Nat),(qkr e p p' p_1 p_3)∧((getK (Cod.key (p_1.2.2.2.2.2.2.1.set (p.1:Int).toNat ((e.near (p_1.2.2.2.2.2.2.1.getD (p.1:Int).toNat (0:Int))).getD (p_3.1:Int).toNat (0:Int)))) p_1.2.2.2.2.1).getD []).length-p'<((getK (Cod.key (p_1.2.2.2.2.2.2.1.set (p.1:Int).toNat ((e.near (p_1.2.2.2.2.2.2.1.getD (p.1:Int).toNat (0:Int))).getD (p_3.1:Int).toNat (0:Int)))) p_1.2.2.2.2.1).getD []).length-p_4∧((p_4:Int)+1=(p':Int)∧zE (Cod.key (p_1.2.2.2.2.2.2.1.set (p.1:Int).toNat ((e.near (p_1.2.2.2.2.2.2.1.getD (p.1:Int).toNat (0:Int))).getD (p_3.1:Int).toNat (0:Int))))∧True∧zE (↑((getK (Cod.key (p_1.2.2.2.2.2.2.1.set (p.1:Int).toNat ((e.near (p_1.2.2.2.2.2.2.1.getD (p.1:Int).toNat (0:Int))).getD (p_3.1:Int).toNat (0:Int)))) p_1.2.2.2.2.1).getD []).length:Int)∧True)∧(q39 e p_1)∧True∧True∧(q4u p_1 p_2)∧(zCoG0_9 book e p p_1 p_3)∧True∧True∧zE p_1.2.2.2.2.1∧True∧(zT4)∧True else (zFit ((p_3.1:Int)+1))∧∃ (p':Nat×q02×q04),(qfv e p p' p_1)∧(e.near (p_1.2.2.2.2.2.2.1.getD (p.1:Int).toNat (0:Int))).length-p'.1<(e.near (p_1.2.2.2.2.2.2.1.getD (p.1:Int).toNat (0:Int))).length-p_3.1∧(qli e p p' p_1 p_3)∧(q39 e p_1)∧True∧True∧(q4u p_1 p_2)∧(q7k book p_1)∧True∧True∧zE p_1.2.2.2.2.1∧True∧(zT4)∧True else False else (zFit ((p_3.1:Int)+1))∧∃ (p':Nat×q02×q04),(qfv e p p' p_1)∧(e.near (p_1.2.2.2.2.2.2.1.getD (p.1:Int).toNat (0:Int))).length-p'.1<(e.near (p_1.2.2.2.2.2.2.1.getD (p.1:Int).toNat (0:Int))).length-p_3.1∧(qli e p p' p_1 p_3)∧(q39 e p_1)∧True∧True∧(q4u p_1 p_2)∧(q7k book p_1)∧True∧True∧zE p_1.2.2.2.2.1∧True∧(zT4)∧True else (p_1.2.2.2.2.2.2.1.length≤(1000000:Nat)∧(zFit ((p.1:Int)+1))∧(zE ((p.1:Int)+1)∧0≤(p.1:Int)∧(p.1:Int)<(p_1.2.2.2.2.2.2.1.length:Int))∧True∧bif (getK (Cod.key (p_1.2.2.2.2.2.2.1.eraseIdx (p.1:Int).toNat)) p_1.2.2.1).getD false then false=e.proper book else (∃ (p':Nat),(ql7 p p' p_1)∧((0:Int)=(p':Int)∧zE (Cod.key (p_1.2.2.2.2.2.2.1.eraseIdx (p.1:Int).toNat))∧True∧zE (↑((getK (Cod.key (p_1.2.2.2.2.2.2.1.eraseIdx (p.1:Int).toNat)) p_1.2.2.2.2.1).getD []).length:Int)∧True)∧(q39 e p_1)∧True∧True∧(q4u p_1 p_2)∧(ql1 book e p p_1 p_3)∧True∧True∧zE p_1.2.2.2.2.1∧True∧(zT4)∧True)∧∀ (p_4:Nat),p_4≤((getK (Cod.key (p_1.2.2.2.2.2.2.1.eraseIdx (p.1:Int).toNat)) p_1.2.2.2.2.1).getD []).length∧((Q4 p_4 ((getK (Cod.key (p_1.2.2.2.2.2.2.1.eraseIdx (p.1:Int).toNat)) p_1.2.2.2.2.1).getD [])).any λ(o:List UInt8×List Int×Bool×Int×Int)=>Cod.q0o o p_1.2.2.2.2.2)=false→bif decide ((p_4:Int)<(↑((getK (Cod.key (p_1.2.2.2.2.2.2.1.eraseIdx (p.1:Int).toNat)) p_1.2.2.2.2.1).getD []).length:Int)) then (0≤(p_4:Int)∧(p_4:Int)<(↑((getK (Cod.key (p_1.2.2.2.2.2.2.1.eraseIdx (p.1:Int).toNat)) p_1.2.2.2.2.1).getD []).length:Int))∧True∧bif Cod.q0o (((getK (Cod.key (p_1.2.2.2.2.2.2.1.eraseIdx (p.1:Int).toNat)) p_1.2.2.2.2.1).getD []).getD (p_4:Int).toNat Cod.noG) p_1.2.2.2.2.2 then false=e.proper book else (zFit ((p_4:Int)+1))∧∃ (p':Nat),(ql7 p p' p_1)∧((getK (Cod.key (p_1.2.2.2.2.2.2.1.eraseIdx (p.1:Int).toNat)) p_1.2.2.2.2.1).getD []).length-p'<((getK (Cod.key (p_1.2.2.2.2.2.2.1.eraseIdx (p.1:Int).toNat)) p_1.2.2.2.2.1).getD []).length-p_4∧((p_4:Int)+1=(p':Int)∧zE (Cod.key (p_1.2.2.2.2.2.2.1.eraseIdx (p.1:Int).toNat))∧True∧zE (↑((getK (Cod.key (p_1.2.2.2.2.2.2.1.eraseIdx (p.1:Int).toNat)) p_1.2.2.2.2.1).getD []).length:Int)∧True)∧(q39 e p_1)∧True∧True∧(q4u p_1 p_2)∧(ql1 book e p p_1 p_3)∧True∧True∧zE p_1.2.2.2.2.1∧True∧(zT4)∧True else ∃ (p':q02×q04),q0x p_1.2.2.1 p_1.2.2.2.2.1 p_1.2.2.2.2.2 (p_1.2.2.2.2.2.2.1.eraseIdx (p.1:Int).toNat)=true∧(True∧True∧True∧True∧zE (p.1:Int)∧zE (p_1.2.2.2.2.2.2.1.getD (p.1:Int).toNat (0:Int))∧zE p_1.2.2.2.2.2.2.1∧zE (p_1.2.2.2.2.2.2.1.length:Int)∧zE (p.1:Int)∧True)∧(q39 e p_1)∧True∧True∧(q4u p_1 p_2)∧(q7k book p_1)∧True∧True∧zE p_1.2.2.2.2.1∧True∧(zT4)∧True)∧∀ (p_4:q02×q04),q0x p_1.2.2.1 p_1.2.2.2.2.1 p_1.2.2.2.2.2 (p_1.2.2.2.2.2.2.1.eraseIdx (p.1:Int).toNat)=true→bif (p.1:Int)==(0:Int) then (zFit ((p.1:Int)+1))∧∃ (p':Nat×q03×q02×q04),(qcm e p' p_1)∧p_1.2.2.2.2.2.2.1.length-p'.1<p_1.2.2.2.2.2.2.1.length-p.1∧((p.1:Int)+1=(p'.1:Int)∧True∧True∧True∧True∧zE p_1.2.2.2.2.2.2.1∧zE (p_1.2.2.2.2.2.2.1.length:Int)∧True)∧(q39 e p_1)∧True∧True∧(p_2=p'.2.1∧zE p_1.2.2.1∧zE p_1.2.2.2.1∧True)∧(q7k book p_1)∧True∧True∧zE p_1.2.2.2.2.1∧True∧(zT4)∧True else (zFit ((p.1:Int)-1))∧(0≤(p.1:Int)-1∧(p.1:Int)-1<(p_1.2.2.2.2.2.2.1.length:Int))∧bif p_1.2.2.2.2.2.2.1.getD ((p.1:Int)-1).toNat (0:Int)==p_1.2.2.2.2.2.2.1.getD (p.1:Int).toNat (0:Int) then (zFit ((p.1:Int)+1))∧∃ (p':Nat×q03×q02×q04),(qcm e p' p_1)∧p_1.2.2.2.2.2.2.1.length-p'.1<p_1.2.2.2.2.2.2.1.length-p.1∧((p.1:Int)+1=(p'.1:Int)∧True∧True∧True∧True∧zE p_1.2.2.2.2.2.2.1∧zE (p_1.2.2.2.2.2.2.1.length:Int)∧True)∧(q39 e p_1)∧True∧True∧(p_2=p'.2.1∧zE p_1.2.2.1∧zE p_1.2.2.2.1∧True)∧(q7k book p_1)∧True∧True∧zE p_1.2.2.2.2.1∧True∧(zT4)∧True else (zFit ((p.1:Int)-1))∧(0≤(p.1:Int)-1∧(p.1:Int)-1<(p_1.2.2.2.2.2.2.1.length:Int))∧p_1.2.2.2.2.2.2.1.length≤(1000000:Nat)∧(0≤(p.1:Int)∧(p.1:Int)<(p_1.2.2.2.2.2.2.1.length:Int))∧bif (p.1:Int).toNat.beq (p.1:Int).toNat then (zFit ((p.1:Int)-1))∧(0≤(p.1:Int)-1∧(p.1:Int)-1<(↑(p_1.2.2.2.2.2.2.1.set (p.1:Int).toNat (p_1.2.2.2.2.2.2.1.getD ((p.1:Int)-1).toNat (0:Int))).length:Int))∧bif ((p.1:Int)-1).toNat.beq ((p.1:Int)-1).toNat then True∧bif (getK (Cod.key ((p_1.2.2.2.2.2.2.1.set (p.1:Int).toNat (p_1.2.2.2.2.2.2.1.getD ((p.1:Int)-1).toNat (0:Int))).set ((p.1:Int)-1).toNat (p_1.2.2.2.2.2.2.1.getD (p.1:Int).toNat (0:Int)))) p_1.2.2.1).getD false then false=e.proper book else (∃ (p':Nat),(zCoG0_8 p p' p_1)∧((0:Int)=(p':Int)∧zE (Cod.key ((p_1.2.2.2.2.2.2.1.set (p.1:Int).toNat (p_1.2.2.2.2.2.2.1.getD ((p.1:Int)-1).toNat (0:Int))).set ((p.1:Int)-1).toNat (p_1.2.2.2.2.2.2.1.getD (p.1:Int).toNat (0:Int))))∧True∧zE (↑((getK (Cod.key ((p_1.2.2.2.2.2.2.1.set (p.1:Int).toNat (p_1.2.2.2.2.2.2.1.getD ((p.1:Int)-1).toNat (0:Int))).set ((p.1:Int)-1).toNat (p_1.2.2.2.2.2.2.1.getD (p.1:Int).toNat (0:Int)))) p_1.2.2.2.2.1).getD []).length:Int)∧True)∧(q39 e p_1)∧True∧True∧(q4u p_1 p_2)∧(qkh book p p_1)∧True∧True∧zE p_1.2.2.2.2.1∧True∧(zT4)∧True)∧∀ (p_5:Nat),p_5≤((getK (Cod.key ((p_1.2.2.2.2.2.2.1.set (p.1:Int).toNat (p_1.2.2.2.2.2.2.1.getD ((p.1:Int)-1).toNat (0:Int))).set ((p.1:Int)-1).toNat (p_1.2.2.2.2.2.2.1.getD (p.1:Int).toNat (0:Int)))) p_1.2.2.2.2.1).getD []).length∧((Q4 p_5 ((getK (Cod.key ((p_1.2.2.2.2.2.2.1.set (p.1:Int).toNat (p_1.2.2.2.2.2.2.1.getD ((p.1:Int)-1).toNat (0:Int))).set ((p.1:Int)-1).toNat (p_1.2.2.2.2.2.2.1.getD (p.1:Int).toNat (0:Int)))) p_1.2.2.2.2.1).getD [])).any λ(o:List UInt8×List Int×Bool×Int×Int)=>Cod.q0o o p_1.2.2.2.2.2)=false→bif decide ((p_5:Int)<(↑((getK (Cod.key ((p_1.2.2.2.2.2.2.1.set (p.1:Int).toNat (p_1.2.2.2.2.2.2.1.getD ((p.1:Int)-1).toNat (0:Int))).set ((p.1:Int)-1).toNat (p_1.2.2.2.2.2.2.1.getD (p.1:Int).toNat (0:Int)))) p_1.2.2.2.2.1).getD []).length:Int)) then (0≤(p_5:Int)∧(p_5:Int)<(↑((getK (Cod.key ((p_1.2.2.2.2.2.2.1.set (p.1:Int).toNat (p_1.2.2.2.2.2.2.1.getD ((p.1:Int)-1).toNat (0:Int))).set ((p.1:Int)-1).toNat (p_1.2.2.2.2.2.2.1.getD (p.1:Int).toNat (0:Int)))) p_1.2.2.2.2.1).getD []).length:Int))∧True∧bif Cod.q0o (((getK (Cod.key ((p_1.2.2.2.2.2.2.1.set (p.1:Int).toNat (p_1.2.2.2.2.2.2.1.getD ((p.1:Int)-1).toNat (0:Int))).set ((p.1:Int)-1).toNat (p_1.2.2.2.2.2.2.1.getD (p.1:Int).toNat (0:Int)))) p_1.2.2.2.2.1).getD []).getD (p_5:Int).toNat Cod.noG) p_1.2.2.2.2.2 then false=e.proper book else (zFit ((p_5:Int)+1))∧∃ (p':Nat),(zCoG0_8 p p' p_1)∧((getK (Cod.key ((p_1.2.2.2.2.2.2.1.set (p.1:Int).toNat (p_1.2.2.2.2.2.2.1.getD ((p.1:Int)-1).toNat (0:Int))).set ((p.1:Int)-1).toNat (p_1.2.2.2.2.2.2.1.getD (p.1:Int).toNat (0:Int)))) p_1.2.2.2.2.1).getD []).length-p'<((getK (Cod.key ((p_1.2.2.2.2.2.2.1.set (p.1:Int).toNat (p_1.2.2.2.2.2.2.1.getD ((p.1:Int)-1).toNat (0:Int))).set ((p.1:Int)-1).toNat (p_1.2.2.2.2.2.2.1.getD (p.1:Int).toNat (0:Int)))) p_1.2.2.2.2.1).getD []).length-p_5∧((p_5:Int)+1=(p':Int)∧zE (Cod.key ((p_1.2.2.2.2.2.2.1.set (p.1:Int).toNat (p_1.2.2.2.2.2.2.1.getD ((p.1:Int)-1).toNat (0:Int))).set ((p.1:Int)-1).toNat (p_1.2.2.2.2.2.2.1.getD (p.1:Int).toNat (0:Int))))∧True∧zE (↑((getK (Cod.key ((p_1.2.2.2.2.2.2.1.set (p.1:Int).toNat (p_1.2.2.2.2.2.2.1.getD ((p.1:Int)-1).toNat (0:Int))).set ((p.1:Int)-1).toNat (p_1.2.2.2.2.2.2.1.getD (p.1:Int).toNat (0:Int)))) p_1.2.2.2.2.1).getD []).length:Int)∧True)∧(q39 e p_1)∧True∧True∧(q4u p_1 p_2)∧(qkh book p p_1)∧True∧True∧zE p_1.2.2.2.2.1∧True∧(zT4)∧True else (zFit ((p.1:Int)+1))∧∃ (p':Nat×q03×q02×q04),(qcm e p' p_1)∧p_1.2.2.2.2.2.2.1.length-p'.1<p_1.2.2.2.2.2.2.1.length-p.1∧((p.1:Int)+1=(p'.1:Int)∧True∧True∧True∧True∧zE p_1.2.2.2.2.2.2.1∧zE (p_1.2.2.2.2.2.2.1.length:Int)∧True)∧(q39 e p_1)∧True∧True∧(p_2=p'.2.1∧zE p_1.2.2.1∧zE p_1.2.2.2.1∧True)∧(q7k book p_1)∧True∧True∧zE p_1.2.2.2.2.1∧True∧(zT4)∧True else False else False else ∃ (p':Nat×q03×q02×q0f×q04×Cod.Giv),(p'.1=(p_1.1:Int).toNat∧p'.1<Q5 book∧p'.2.2.2.2.2=Q8 book p'.1 Cod.noG∧q0a e p'.2.1∧q27 (Q4 p'.1 book) p'.2.2.1∧q2d (Q4 p'.1 book) p'.2.2.2.1∧q2e e (Q4 p'.1 book) p'.2.2.2.2.1∧e.shelf [] (Q4 (p'.1+(1:Nat)) book)=true)∧(True∧(p_1.1:Int)=(p'.1:Int)∧True∧True∧True∧zE book∧zE (↑(Q5 book):Int)∧True)∧((p_1.2.2.2.2.2.1=p'.2.2.2.2.2.1∧p_1.2.2.2.2.2.2.1=p'.2.2.2.2.2.2.1∧p_1.2.2.2.2.2.2.2.1=p'.2.2.2.2.2.2.2.1∧p_1.2.2.2.2.2.2.2.2.1=p'.2.2.2.2.2.2.2.2.1∧p_1.2.2.2.2.2.2.2.2.2=p'.2.2.2.2.2.2.2.2.2∧True)∧(zE e.lang∧zE e.ws∧True)∧(zE e.lang∧zE e.ws∧True∧zE e.c∧True)∧(zT4)∧(zE e.lang∧zE e.ws∧True)∧(zE p_1.2.2.2.2.2.1∧zE p_1.2.2.2.2.2.2.1∧zE p_1.2.2.2.2.2.2.2.1∧zE p_1.2.2.2.2.2.2.2.2.1∧zE p_1.2.2.2.2.2.2.2.2.2∧True)∧True)∧True∧True∧(p.2.1=p'.2.1∧p_1.2.2.1=p'.2.2.1∧p_1.2.2.2.1=p'.2.2.2.1∧True)∧True∧True∧True∧p_1.2.2.2.2.1=p'.2.2.2.2.1∧True)∧∀ (p_2:Nat×q03×q02×q0f×q04×Cod.Giv),p_2.1=(p_1.1:Int).toNat∧p_2.1<Q5 book∧p_2.2.2.2.2.2=Q8 book p_2.1 Cod.noG∧q0a e p_2.2.1∧q27 (Q4 p_2.1 book) p_2.2.2.1∧q2d (Q4 p_2.1 book) p_2.2.2.2.1∧q2e e (Q4 p_2.1 book) p_2.2.2.2.2.1∧e.shelf [] (Q4 (p_2.1+(1:Nat)) book)=true→True∧(∃ (p':Nat×q03×q02×q04),(q9y e p' p_2)∧((0:Int)=(p'.1:Int)∧True∧True∧True∧True∧zE p_2.2.2.2.2.2.2.1∧zE (p_2.2.2.2.2.2.2.1.length:Int)∧True)∧(q3d e p_2)∧True∧True∧([]=p'.2.2.1∧p_2.2.1=p'.2.1∧zE (putK (Cod.key p_2.2.2.2.2.2.2.1) true p_2.2.2.1)∧Mp.put (λ(x x_1:List UInt8)=>x==x_1) p_2.2.2.2.2.2.1 true p_2.2.2.2.1=Mp.put (λ(x x_1:List UInt8)=>x==x_1) p_2.2.2.2.2.2.1 true p_2.2.2.2.1∧True)∧(q44 book p_2)∧True∧True∧p_2.2.2.2.2.1=p'.2.2.2∧True∧(zT4)∧True)∧∀ (p_3:Nat×q03×q02×q04),p_3.1≤p_2.2.2.2.2.2.2.1.length∧q0a e p_3.2.1∧q0w [] p_2.2.2.2.2.1 p_2.2.2.2.2.2 (e.q0i p_2.2.2.2.2.2.2.1 p_3.1 (0:Nat)) p_3.2.2.1 p_3.2.2.2→bif decide ((p_3.1:Int)<(p_2.2.2.2.2.2.2.1.length:Int)) then (0≤(p_3.1:Int)∧(p_3.1:Int)<(p_2.2.2.2.2.2.2.1.length:Int))∧(bif !(Mp.get (λ(x x_1:Int)=>x==x_1) (p_2.2.2.2.2.2.2.1.getD (p_3.1:Int).toNat (0:Int)) p_3.2.1).isSome then ((0:Int)≤p_2.2.2.2.2.2.2.1.getD (p_3.1:Int).toNat (0:Int)∧p_2.2.2.2.2.2.2.1.getD (p_3.1:Int).toNat 0<(e.ws.length:Int))∧(q0j (e.lang,e.ws)∧q0n e.c∧(e.ws.getD (p_2.2.2.2.2.2.2.1.getD (p_3.1:Int).toNat (0:Int)).toNat []).length≤(1000000:Nat))∧∃ (p':q03),q0a e p'∧((Snd.q10 e.lang e.ws e.c (e.ws.getD (p_2.2.2.2.2.2.2.1.getD (p_3.1:Int).toNat (0:Int)).toNat [])).1=e.near (p_2.2.2.2.2.2.2.1.getD (p_3.1:Int).toNat (0:Int))∧True)∧(q3d e p_2)∧True∧True∧(zE p_3.2.2.1∧Mp.put (λ(x x_1:Int)=>x==x_1) (p_2.2.2.2.2.2.2.1.getD (p_3.1:Int).toNat (0:Int)) (Snd.q10 e.lang e.ws e.c (e.ws.getD (p_2.2.2.2.2.2.2.1.getD (p_3.1:Int).toNat (0:Int)).toNat [])).1 p_3.2.1=p'∧zE (putK (Cod.key p_2.2.2.2.2.2.2.1) true p_2.2.2.1)∧Mp.put (λ(x x_1:List UInt8)=>x==x_1) p_2.2.2.2.2.2.1 true p_2.2.2.2.1=Mp.put (λ(x x_1:List UInt8)=>x==x_1) p_2.2.2.2.2.2.1 true p_2.2.2.2.1∧True)∧(qkk book p_2 p_3)∧True∧True∧zE p_3.2.2.2∧True∧(zT4)∧True else ∃ (p':q03),q0a e p'∧((Mp.get (λ(x x_1:Int)=>x==x_1) (p_2.2.2.2.2.2.2.1.getD (p_3.1:Int).toNat (0:Int)) p_3.2.1).getD []=e.near (p_2.2.2.2.2.2.2.1.getD (p_3.1:Int).toNat (0:Int))∧True)∧(q3d e p_2)∧True∧True∧(zE p_3.2.2.1∧p_3.2.1=p'∧zE (putK (Cod.key p_2.2.2.2.2.2.2.1) true p_2.2.2.1)∧Mp.put (λ(x x_1:List UInt8)=>x==x_1) p_2.2.2.2.2.2.1 true p_2.2.2.2.1=Mp.put (λ(x x_1:List UInt8)=>x==x_1) p_2.2.2.2.2.2.1 true p_2.2.2.2.1∧True)∧(qkk book p_2 p_3)∧True∧True∧zE p_3.2.2.2∧True∧(zT4)∧True)∧∀ (p:q03),q0a e p→(∃ (p':Nat×q02×q04),(qca e p' p_2 p_3)∧((0:Int)=(p'.1:Int)∧True∧True∧True∧True∧zE (p_3.1:Int)∧zE (p_2.2.2.2.2.2.2.1.getD (p_3.1:Int).toNat (0:Int))∧zE p_2.2.2.2.2.2.2.1∧zE (p_2.2.2.2.2.2.2.1.length:Int)∧zE (p_3.1:Int)∧zE (e.near (p_2.2.2.2.2.2.2.1.getD (p_3.1:Int).toNat (0:Int)))∧zE (↑(e.near (p_2.2.2.2.2.2.2.1.getD (p_3.1:Int).toNat (0:Int))).length:Int)∧True)∧(q3d e p_2)∧True∧True∧(p_3.2.2.1=p'.2.1∧p=p∧zE (putK (Cod.key p_2.2.2.2.2.2.2.1) true p_2.2.2.1)∧Mp.put (λ(x x_1:List UInt8)=>x==x_1) p_2.2.2.2.2.2.1 true p_2.2.2.2.1=Mp.put (λ(x x_1:List UInt8)=>x==x_1) p_2.2.2.2.2.2.1 true p_2.2.2.2.1∧True)∧(q44 book p_2)∧True∧True∧p_3.2.2.2=p'.2.2∧True∧(zT4)∧True)∧∀ (p_4:Nat×q02×q04),p_4.1≤(e.near (p_2.2.2.2.2.2.2.1.getD (p_3.1:Int).toNat (0:Int))).length∧q0w p_3.2.2.1 p_3.2.2.2 p_2.2.2.2.2.2 (q0y e p_2.2.2.2.2.2.2.1 (p_3.1:Int).toNat p_4.1) p_4.2.1 p_4.2.2→bif decide ((p_4.1:Int)<(↑(e.near (p_2.2.2.2.2.2.2.1.getD (p_3.1:Int).toNat (0:Int))).length:Int)) then (0≤(p_4.1:Int)∧(p_4.1:Int)<(↑(e.near (p_2.2.2.2.2.2.2.1.getD (p_3.1:Int).toNat (0:Int))).length:Int))∧bif (e.near (p_2.2.2.2.2.2.2.1.getD (p_3.1:Int).toNat (0:Int))).getD (p_4.1:Int).toNat (0:Int) != p_2.2.2.2.2.2.2.1.getD (p_3.1:Int).toNat (0:Int) then p_2.2.2.2.2.2.2.1.length≤(1000000:Nat)∧(0≤(p_3.1:Int)∧(p_3.1:Int)<(p_2.2.2.2.2.2.2.1.length:Int))∧bif (p_3.1:Int).toNat.beq (p_3.1:Int).toNat then True∧bif !(getK (Cod.key (p_2.2.2.2.2.2.2.1.set (p_3.1:Int).toNat ((e.near (p_2.2.2.2.2.2.2.1.getD (p_3.1:Int).toNat (0:Int))).getD (p_4.1:Int).toNat (0:Int)))) p_4.2.1).getD false then ((((getK (Cod.key (p_2.2.2.2.2.2.2.1.set (p_3.1:Int).toNat ((e.near (p_2.2.2.2.2.2.2.1.getD (p_3.1:Int).toNat (0:Int))).getD (p_4.1:Int).toNat (0:Int)))) (putK (Cod.key (p_2.2.2.2.2.2.2.1.set (p_3.1:Int).toNat ((e.near (p_2.2.2.2.2.2.2.1.getD (p_3.1:Int).toNat (0:Int))).getD (p_4.1:Int).toNat (0:Int)))) ((getK (Cod.key (p_2.2.2.2.2.2.2.1.set (p_3.1:Int).toNat ((e.near (p_2.2.2.2.2.2.2.1.getD (p_3.1:Int).toNat (0:Int))).getD (p_4.1:Int).toNat (0:Int)))) p_4.2.2).getD []) p_4.2.2)).getD []).length+[p_2.2.2.2.2.2].length)*(64:Nat)≤(140737488355328:Nat)∧zE (Cod.key (p_2.2.2.2.2.2.2.1.set (p_3.1:Int).toNat ((e.near (p_2.2.2.2.2.2.2.1.getD (p_3.1:Int).toNat (0:Int))).getD (p_4.1:Int).toNat (0:Int))))∧(zFit ((p_4.1:Int)+1))∧∃ (p':Nat×q02×q04),(qca e p' p_2 p_3)∧(e.near (p_2.2.2.2.2.2.2.1.getD (p_3.1:Int).toNat (0:Int))).length-p'.1<(e.near (p_2.2.2.2.2.2.2.1.getD (p_3.1:Int).toNat (0:Int))).length-p_4.1∧(qew e p' p_2 p_3 p_4)∧(q3d e p_2)∧True∧True∧(qki e p p' p_2 p_3 p_4)∧(q44 book p_2)∧True∧True∧putK (Cod.key (p_2.2.2.2.2.2.2.1.set (p_3.1:Int).toNat ((e.near (p_2.2.2.2.2.2.2.1.getD (p_3.1:Int).toNat (0:Int))).getD (p_4.1:Int).toNat (0:Int)))) ((getK (Cod.key (p_2.2.2.2.2.2.2.1.set (p_3.1:Int).toNat ((e.near (p_2.2.2.2.2.2.2.1.getD (p_3.1:Int).toNat (0:Int))).getD (p_4.1:Int).toNat (0:Int)))) (putK (Cod.key (p_2.2.2.2.2.2.2.1.set (p_3.1:Int).toNat ((e.near (p_2.2.2.2.2.2.2.1.getD (p_3.1:Int).toNat (0:Int))).getD (p_4.1:Int).toNat (0:Int)))) ((getK (Cod.key (p_2.2.2.2.2.2.2.1.set (p_3.1:Int).toNat ((e.near (p_2.2.2.2.2.2.2.1.getD (p_3.1:Int).toNat (0:Int))).getD (p_4.1:Int).toNat (0:Int)))) p_4.2.2).getD []) p_4.2.2)).getD []++[p_2.2.2.2.2.2]) (putK (Cod.key (p_2.2.2.2.2.2.2.1.set (p_3.1:Int).toNat ((e.near (p_2.2.2.2.2.2.2.1.getD (p_3.1:Int).toNat (0:Int))).getD (p_4.1:Int).toNat (0:Int)))) ((getK (Cod.key (p_2.2.2.2.2.2.2.1.set (p_3.1:Int).toNat ((e.near (p_2.2.2.2.2.2.2.1.getD (p_3.1:Int).toNat (0:Int))).getD (p_4.1:Int).toNat (0:Int)))) p_4.2.2).getD []) p_4.2.2)=p'.2.2∧True∧(zT4)∧True)∧(((getK (Cod.key (p_2.2.2.2.2.2.2.1.set (p_3.1:Int).toNat ((e.near (p_2.2.2.2.2.2.2.1.getD (p_3.1:Int).toNat (0:Int))).getD (p_4.1:Int).toNat (0:Int)))) (putK (Cod.key (p_2.2.2.2.2.2.2.1.set (p_3.1:Int).toNat ((e.near (p_2.2.2.2.2.2.2.1.getD (p_3.1:Int).toNat (0:Int))).getD (p_4.1:Int).toNat (0:Int)))) ((getK (Cod.key (p_2.2.2.2.2.2.2.1.set (p_3.1:Int).toNat ((e.near (p_2.2.2.2.2.2.2.1.getD (p_3.1:Int).toNat (0:Int))).getD (p_4.1:Int).toNat (0:Int)))) p_4.2.2).getD []) p_4.2.2)).getD []).length+[p_2.2.2.2.2.2].length)*(64:Nat)≤(140737488355328:Nat)∧zE (Cod.key (p_2.2.2.2.2.2.2.1.set (p_3.1:Int).toNat ((e.near (p_2.2.2.2.2.2.2.1.getD (p_3.1:Int).toNat (0:Int))).getD (p_4.1:Int).toNat (0:Int))))∧(zFit ((p_4.1:Int)+1))∧∃ (p':Nat×q02×q04),(qca e p' p_2 p_3)∧(e.near (p_2.2.2.2.2.2.2.1.getD (p_3.1:Int).toNat (0:Int))).length-p'.1<(e.near (p_2.2.2.2.2.2.2.1.getD (p_3.1:Int).toNat (0:Int))).length-p_4.1∧(qew e p' p_2 p_3 p_4)∧(q3d e p_2)∧True∧True∧(qki e p p' p_2 p_3 p_4)∧(q44 book p_2)∧True∧True∧putK (Cod.key (p_2.2.2.2.2.2.2.1.set (p_3.1:Int).toNat ((e.near (p_2.2.2.2.2.2.2.1.getD (p_3.1:Int).toNat (0:Int))).getD (p_4.1:Int).toNat (0:Int)))) ((getK (Cod.key (p_2.2.2.2.2.2.2.1.set (p_3.1:Int).toNat ((e.near (p_2.2.2.2.2.2.2.1.getD (p_3.1:Int).toNat (0:Int))).getD (p_4.1:Int).toNat (0:Int)))) (putK (Cod.key (p_2.2.2.2.2.2.2.1.set (p_3.1:Int).toNat ((e.near (p_2.2.2.2.2.2.2.1.getD (p_3.1:Int).toNat (0:Int))).getD (p_4.1:Int).toNat (0:Int)))) ((getK (Cod.key (p_2.2.2.2.2.2.2.1.set (p_3.1:Int).toNat ((e.near (p_2.2.2.2.2.2.2.1.getD (p_3.1:Int).toNat (0:Int))).getD (p_4.1:Int).toNat (0:Int)))) p_4.2.2).getD []) p_4.2.2)).getD []++[p_2.2.2.2.2.2]) (putK (Cod.key (p_2.2.2.2.2.2.2.1.set (p_3.1:Int).toNat ((e.near (p_2.2.2.2.2.2.2.1.getD (p_3.1:Int).toNat (0:Int))).getD (p_4.1:Int).toNat (0:Int)))) ((getK (Cod.key (p_2.2.2.2.2.2.2.1.set (p_3.1:Int).toNat ((e.near (p_2.2.2.2.2.2.2.1.getD (p_3.1:Int).toNat (0:Int))).getD (p_4.1:Int).toNat (0:Int)))) p_4.2.2).getD []) p_4.2.2)=p'.2.2∧True∧(zT4)∧True else (zFit ((p_4.1:Int)+1))∧∃ (p':Nat×q02×q04),(qca e p' p_2 p_3)∧(e.near (p_2.2.2.2.2.2.2.1.getD (p_3.1:Int).toNat (0:Int))).length-p'.1<(e.near (p_2.2.2.2.2.2.2.1.getD (p_3.1:Int).toNat (0:Int))).length-p_4.1∧(qew e p' p_2 p_3 p_4)∧(q3d e p_2)∧True∧True∧(p_4.2.1=p'.2.1∧p=p∧zE (putK (Cod.key p_2.2.2.2.2.2.2.1) true p_2.2.2.1)∧Mp.put (λ(x x_1:List UInt8)=>x==x_1) p_2.2.2.2.2.2.1 true p_2.2.2.2.1=Mp.put (λ(x x_1:List UInt8)=>x==x_1) p_2.2.2.2.2.2.1 true p_2.2.2.2.1∧True)∧(q44 book p_2)∧True∧True∧p_4.2.2=p'.2.2∧True∧(zT4)∧True else False else (zFit ((p_4.1:Int)+1))∧∃ (p':Nat×q02×q04),(qca e p' p_2 p_3)∧(e.near (p_2.2.2.2.2.2.2.1.getD (p_3.1:Int).toNat (0:Int))).length-p'.1<(e.near (p_2.2.2.2.2.2.2.1.getD (p_3.1:Int).toNat (0:Int))).length-p_4.1∧(qew e p' p_2 p_3 p_4)∧(q3d e p_2)∧True∧True∧(p_4.2.1=p'.2.1∧p=p∧zE (putK (Cod.key p_2.2.2.2.2.2.2.1) true p_2.2.2.1)∧Mp.put (λ(x x_1:List UInt8)=>x==x_1) p_2.2.2.2.2.2.1 true p_2.2.2.2.1=Mp.put (λ(x x_1:List UInt8)=>x==x_1) p_2.2.2.2.2.2.1 true p_2.2.2.2.1∧True)∧(q44 book p_2)∧True∧True∧p_4.2.2=p'.2.2∧True∧(zT4)∧True else (p_2.2.2.2.2.2.2.1.length≤(1000000:Nat)∧(zFit ((p_3.1:Int)+1))∧(zE ((p_3.1:Int)+1)∧0≤(p_3.1:Int)∧(p_3.1:Int)<(p_2.2.2.2.2.2.2.1.length:Int))∧True∧bif !(getK (Cod.key (p_2.2.2.2.2.2.2.1.eraseIdx (p_3.1:Int).toNat)) p_4.2.1).getD false then ((((getK (Cod.key (p_2.2.2.2.2.2.2.1.eraseIdx (p_3.1:Int).toNat)) (putK (Cod.key (p_2.2.2.2.2.2.2.1.eraseIdx (p_3.1:Int).toNat)) ((getK (Cod.key (p_2.2.2.2.2.2.2.1.eraseIdx (p_3.1:Int).toNat)) p_4.2.2).getD []) p_4.2.2)).getD []).length+[p_2.2.2.2.2.2].length)*(64:Nat)≤(140737488355328:Nat)∧zE (Cod.key (p_2.2.2.2.2.2.2.1.eraseIdx (p_3.1:Int).toNat))∧∃ (p':q02×q04),q0w p_4.2.1 p_4.2.2 p_2.2.2.2.2.2 [p_2.2.2.2.2.2.2.1.eraseIdx (p_3.1:Int).toNat] p'.1 p'.2∧(qg9 p_2 p_3)∧(q3d e p_2)∧True∧True∧(putK (Cod.key (p_2.2.2.2.2.2.2.1.eraseIdx (p_3.1:Int).toNat)) true p_4.2.1=p'.1∧p=p∧zE (putK (Cod.key p_2.2.2.2.2.2.2.1) true p_2.2.2.1)∧Mp.put (λ(x x_1:List UInt8)=>x==x_1) p_2.2.2.2.2.2.1 true p_2.2.2.2.1=Mp.put (λ(x x_1:List UInt8)=>x==x_1) p_2.2.2.2.2.2.1 true p_2.2.2.2.1∧True)∧(q44 book p_2)∧True∧True∧putK (Cod.key (p_2.2.2.2.2.2.2.1.eraseIdx (p_3.1:Int).toNat)) ((getK (Cod.key (p_2.2.2.2.2.2.2.1.eraseIdx (p_3.1:Int).toNat)) (putK (Cod.key (p_2.2.2.2.2.2.2.1.eraseIdx (p_3.1:Int).toNat)) ((getK (Cod.key (p_2.2.2.2.2.2.2.1.eraseIdx (p_3.1:Int).toNat)) p_4.2.2).getD []) p_4.2.2)).getD []++[p_2.2.2.2.2.2]) (putK (Cod.key (p_2.2.2.2.2.2.2.1.eraseIdx (p_3.1:Int).toNat)) ((getK (Cod.key (p_2.2.2.2.2.2.2.1.eraseIdx (p_3.1:Int).toNat)) p_4.2.2).getD []) p_4.2.2)=p'.2∧True∧(zT4)∧True)∧(((getK (Cod.key (p_2.2.2.2.2.2.2.1.eraseIdx (p_3.1:Int).toNat)) (putK (Cod.key (p_2.2.2.2.2.2.2.1.eraseIdx (p_3.1:Int).toNat)) ((getK (Cod.key (p_2.2.2.2.2.2.2.1.eraseIdx (p_3.1:Int).toNat)) p_4.2.2).getD []) p_4.2.2)).getD []).length+[p_2.2.2.2.2.2].length)*(64:Nat)≤(140737488355328:Nat)∧zE (Cod.key (p_2.2.2.2.2.2.2.1.eraseIdx (p_3.1:Int).toNat))∧∃ (p':q02×q04),q0w p_4.2.1 p_4.2.2 p_2.2.2.2.2.2 [p_2.2.2.2.2.2.2.1.eraseIdx (p_3.1:Int).toNat] p'.1 p'.2∧(qg9 p_2 p_3)∧(q3d e p_2)∧True∧True∧(putK (Cod.key (p_2.2.2.2.2.2.2.1.eraseIdx (p_3.1:Int).toNat)) true p_4.2.1=p'.1∧p=p∧zE (putK (Cod.key p_2.2.2.2.2.2.2.1) true p_2.2.2.1)∧Mp.put (λ(x x_1:List UInt8)=>x==x_1) p_2.2.2.2.2.2.1 true p_2.2.2.2.1=Mp.put (λ(x x_1:List UInt8)=>x==x_1) p_2.2.2.2.2.2.1 true p_2.2.2.2.1∧True)∧(q44 book p_2)∧True∧True∧putK (Cod.key (p_2.2.2.2.2.2.2.1.eraseIdx (p_3.1:Int).toNat)) ((getK (Cod.key (p_2.2.2.2.2.2.2.1.eraseIdx (p_3.1:Int).toNat)) (putK (Cod.key (p_2.2.2.2.2.2.2.1.eraseIdx (p_3.1:Int).toNat)) ((getK (Cod.key (p_2.2.2.2.2.2.2.1.eraseIdx (p_3.1:Int).toNat)) p_4.2.2).getD []) p_4.2.2)).getD []++[p_2.2.2.2.2.2]) (putK (Cod.key (p_2.2.2.2.2.2.2.1.eraseIdx (p_3.1:Int).toNat)) ((getK (Cod.key (p_2.2.2.2.2.2.2.1.eraseIdx (p_3.1:Int).toNat)) p_4.2.2).getD []) p_4.2.2)=p'.2∧True∧(zT4)∧True else ∃ (p':q02×q04),q0w p_4.2.1 p_4.2.2 p_2.2.2.2.2.2 [p_2.2.2.2.2.2.2.1.eraseIdx (p_3.1:Int).toNat] p'.1 p'.2∧(qg9 p_2 p_3)∧(q3d e p_2)∧True∧True∧(p_4.2.1=p'.1∧p=p∧zE (putK (Cod.key p_2.2.2.2.2.2.2.1) true p_2.2.2.1)∧Mp.put (λ(x x_1:List UInt8)=>x==x_1) p_2.2.2.2.2.2.1 true p_2.2.2.2.1=Mp.put (λ(x x_1:List UInt8)=>x==x_1) p_2.2.2.2.2.2.1 true p_2.2.2.2.1∧True)∧(q44 book p_2)∧True∧True∧p_4.2.2=p'.2∧True∧(zT4)∧True)∧∀ (p_5:q02×q04),q0w p_4.2.1 p_4.2.2 p_2.2.2.2.2.2 [p_2.2.2.2.2.2.2.1.eraseIdx (p_3.1:Int).toNat] p_5.1 p_5.2→bif (p_3.1:Int)==(0:Int) then (zFit ((p_3.1:Int)+1))∧∃ (p':Nat×q03×q02×q04),(q9y e p' p_2)∧p_2.2.2.2.2.2.2.1.length-p'.1<p_2.2.2.2.2.2.2.1.length-p_3.1∧(qa6 p' p_2 p_3)∧(q3d e p_2)∧True∧True∧(qfg p p' p_2 p_5)∧(q44 book p_2)∧True∧True∧p_5.2=p'.2.2.2∧True∧(zT4)∧True else (zFit ((p_3.1:Int)-1))∧(0≤(p_3.1:Int)-1∧(p_3.1:Int)-1<(p_2.2.2.2.2.2.2.1.length:Int))∧bif p_2.2.2.2.2.2.2.1.getD ((p_3.1:Int)-1).toNat (0:Int)==p_2.2.2.2.2.2.2.1.getD (p_3.1:Int).toNat (0:Int) then (zFit ((p_3.1:Int)+1))∧∃ (p':Nat×q03×q02×q04),(q9y e p' p_2)∧p_2.2.2.2.2.2.2.1.length-p'.1<p_2.2.2.2.2.2.2.1.length-p_3.1∧(qa6 p' p_2 p_3)∧(q3d e p_2)∧True∧True∧(qfg p p' p_2 p_5)∧(q44 book p_2)∧True∧True∧p_5.2=p'.2.2.2∧True∧(zT4)∧True else (zFit ((p_3.1:Int)-1))∧(0≤(p_3.1:Int)-1∧(p_3.1:Int)-1<(p_2.2.2.2.2.2.2.1.length:Int))∧p_2.2.2.2.2.2.2.1.length≤(1000000:Nat)∧(0≤(p_3.1:Int)∧(p_3.1:Int)<(p_2.2.2.2.2.2.2.1.length:Int))∧bif (p_3.1:Int).toNat.beq (p_3.1:Int).toNat then (zFit ((p_3.1:Int)-1))∧(0≤(p_3.1:Int)-1∧(p_3.1:Int)-1<(↑(p_2.2.2.2.2.2.2.1.set (p_3.1:Int).toNat (p_2.2.2.2.2.2.2.1.getD ((p_3.1:Int)-1).toNat (0:Int))).length:Int))∧bif ((p_3.1:Int)-1).toNat.beq ((p_3.1:Int)-1).toNat then True∧bif !(getK (Cod.key ((p_2.2.2.2.2.2.2.1.set (p_3.1:Int).toNat (p_2.2.2.2.2.2.2.1.getD ((p_3.1:Int)-1).toNat (0:Int))).set ((p_3.1:Int)-1).toNat (p_2.2.2.2.2.2.2.1.getD (p_3.1:Int).toNat (0:Int)))) p_5.1).getD false then ((((getK (Cod.key ((p_2.2.2.2.2.2.2.1.set (p_3.1:Int).toNat (p_2.2.2.2.2.2.2.1.getD ((p_3.1:Int)-1).toNat (0:Int))).set ((p_3.1:Int)-1).toNat (p_2.2.2.2.2.2.2.1.getD (p_3.1:Int).toNat (0:Int)))) (putK (Cod.key ((p_2.2.2.2.2.2.2.1.set (p_3.1:Int).toNat (p_2.2.2.2.2.2.2.1.getD ((p_3.1:Int)-1).toNat (0:Int))).set ((p_3.1:Int)-1).toNat (p_2.2.2.2.2.2.2.1.getD (p_3.1:Int).toNat (0:Int)))) ((getK (Cod.key ((p_2.2.2.2.2.2.2.1.set (p_3.1:Int).toNat (p_2.2.2.2.2.2.2.1.getD ((p_3.1:Int)-1).toNat (0:Int))).set ((p_3.1:Int)-1).toNat (p_2.2.2.2.2.2.2.1.getD (p_3.1:Int).toNat (0:Int)))) p_5.2).getD []) p_5.2)).getD []).length+[p_2.2.2.2.2.2].length)*(64:Nat)≤(140737488355328:Nat)∧zE (Cod.key ((p_2.2.2.2.2.2.2.1.set (p_3.1:Int).toNat (p_2.2.2.2.2.2.2.1.getD ((p_3.1:Int)-1).toNat (0:Int))).set ((p_3.1:Int)-1).toNat (p_2.2.2.2.2.2.2.1.getD (p_3.1:Int).toNat (0:Int))))∧(zFit ((p_3.1:Int)+1))∧∃ (p':Nat×q03×q02×q04),(q9y e p' p_2)∧p_2.2.2.2.2.2.2.1.length-p'.1<p_2.2.2.2.2.2.2.1.length-p_3.1∧(qa6 p' p_2 p_3)∧(q3d e p_2)∧True∧True∧(qkj p p' p_2 p_3 p_5)∧(q44 book p_2)∧True∧True∧putK (Cod.key ((p_2.2.2.2.2.2.2.1.set (p_3.1:Int).toNat (p_2.2.2.2.2.2.2.1.getD ((p_3.1:Int)-1).toNat (0:Int))).set ((p_3.1:Int)-1).toNat (p_2.2.2.2.2.2.2.1.getD (p_3.1:Int).toNat (0:Int)))) ((getK (Cod.key ((p_2.2.2.2.2.2.2.1.set (p_3.1:Int).toNat (p_2.2.2.2.2.2.2.1.getD ((p_3.1:Int)-1).toNat (0:Int))).set ((p_3.1:Int)-1).toNat (p_2.2.2.2.2.2.2.1.getD (p_3.1:Int).toNat (0:Int)))) (putK (Cod.key ((p_2.2.2.2.2.2.2.1.set (p_3.1:Int).toNat (p_2.2.2.2.2.2.2.1.getD ((p_3.1:Int)-1).toNat (0:Int))).set ((p_3.1:Int)-1).toNat (p_2.2.2.2.2.2.2.1.getD (p_3.1:Int).toNat (0:Int)))) ((getK (Cod.key ((p_2.2.2.2.2.2.2.1.set (p_3.1:Int).toNat (p_2.2.2.2.2.2.2.1.getD ((p_3.1:Int)-1).toNat (0:Int))).set ((p_3.1:Int)-1).toNat (p_2.2.2.2.2.2.2.1.getD (p_3.1:Int).toNat (0:Int)))) p_5.2).getD []) p_5.2)).getD []++[p_2.2.2.2.2.2]) (putK (Cod.key ((p_2.2.2.2.2.2.2.1.set (p_3.1:Int).toNat (p_2.2.2.2.2.2.2.1.getD ((p_3.1:Int)-1).toNat (0:Int))).set ((p_3.1:Int)-1).toNat (p_2.2.2.2.2.2.2.1.getD (p_3.1:Int).toNat (0:Int)))) ((getK (Cod.key ((p_2.2.2.2.2.2.2.1.set (p_3.1:Int).toNat (p_2.2.2.2.2.2.2.1.getD ((p_3.1:Int)-1).toNat (0:Int))).set ((p_3.1:Int)-1).toNat (p_2.2.2.2.2.2.2.1.getD (p_3.1:Int).toNat (0:Int)))) p_5.2).getD []) p_5.2)=p'.2.2.2∧True∧(zT4)∧True)∧(((getK (Cod.key ((p_2.2.2.2.2.2.2.1.set (p_3.1:Int).toNat (p_2.2.2.2.2.2.2.1.getD ((p_3.1:Int)-1).toNat (0:Int))).set ((p_3.1:Int)-1).toNat (p_2.2.2.2.2.2.2.1.getD (p_3.1:Int).toNat (0:Int)))) (putK (Cod.key ((p_2.2.2.2.2.2.2.1.set (p_3.1:Int).toNat (p_2.2.2.2.2.2.2.1.getD ((p_3.1:Int)-1).toNat (0:Int))).set ((p_3.1:Int)-1).toNat (p_2.2.2.2.2.2.2.1.getD (p_3.1:Int).toNat (0:Int)))) ((getK (Cod.key ((p_2.2.2.2.2.2.2.1.set (p_3.1:Int).toNat (p_2.2.2.2.2.2.2.1.getD ((p_3.1:Int)-1).toNat (0:Int))).set ((p_3.1:Int)-1).toNat (p_2.2.2.2.2.2.2.1.getD (p_3.1:Int).toNat (0:Int)))) p_5.2).getD []) p_5.2)).getD []).length+[p_2.2.2.2.2.2].length)*(64:Nat)≤(140737488355328:Nat)∧zE (Cod.key ((p_2.2.2.2.2.2.2.1.set (p_3.1:Int).toNat (p_2.2.2.2.2.2.2.1.getD ((p_3.1:Int)-1).toNat (0:Int))).set ((p_3.1:Int)-1).toNat (p_2.2.2.2.2.2.2.1.getD (p_3.1:Int).toNat (0:Int))))∧(zFit ((p_3.1:Int)+1))∧∃ (p':Nat×q03×q02×q04),(q9y e p' p_2)∧p_2.2.2.2.2.2.2.1.length-p'.1<p_2.2.2.2.2.2.2.1.length-p_3.1∧(qa6 p' p_2 p_3)∧(q3d e p_2)∧True∧True∧(qkj p p' p_2 p_3 p_5)∧(q44 book p_2)∧True∧True∧putK (Cod.key ((p_2.2.2.2.2.2.2.1.set (p_3.1:Int).toNat (p_2.2.2.2.2.2.2.1.getD ((p_3.1:Int)-1).toNat (0:Int))).set ((p_3.1:Int)-1).toNat (p_2.2.2.2.2.2.2.1.getD (p_3.1:Int).toNat (0:Int)))) ((getK (Cod.key ((p_2.2.2.2.2.2.2.1.set (p_3.1:Int).toNat (p_2.2.2.2.2.2.2.1.getD ((p_3.1:Int)-1).toNat (0:Int))).set ((p_3.1:Int)-1).toNat (p_2.2.2.2.2.2.2.1.getD (p_3.1:Int).toNat (0:Int)))) (putK (Cod.key ((p_2.2.2.2.2.2.2.1.set (p_3.1:Int).toNat (p_2.2.2.2.2.2.2.1.getD ((p_3.1:Int)-1).toNat (0:Int))).set ((p_3.1:Int)-1).toNat (p_2.2.2.2.2.2.2.1.getD (p_3.1:Int).toNat (0:Int)))) ((getK (Cod.key ((p_2.2.2.2.2.2.2.1.set (p_3.1:Int).toNat (p_2.2.2.2.2.2.2.1.getD ((p_3.1:Int)-1).toNat (0:Int))).set ((p_3.1:Int)-1).toNat (p_2.2.2.2.2.2.2.1.getD (p_3.1:Int).toNat (0:Int)))) p_5.2).getD []) p_5.2)).getD []++[p_2.2.2.2.2.2]) (putK (Cod.key ((p_2.2.2.2.2.2.2.1.set (p_3.1:Int).toNat (p_2.2.2.2.2.2.2.1.getD ((p_3.1:Int)-1).toNat (0:Int))).set ((p_3.1:Int)-1).toNat (p_2.2.2.2.2.2.2.1.getD (p_3.1:Int).toNat (0:Int)))) ((getK (Cod.key ((p_2.2.2.2.2.2.2.1.set (p_3.1:Int).toNat (p_2.2.2.2.2.2.2.1.getD ((p_3.1:Int)-1).toNat (0:Int))).set ((p_3.1:Int)-1).toNat (p_2.2.2.2.2.2.2.1.getD (p_3.1:Int).toNat (0:Int)))) p_5.2).getD []) p_5.2)=p'.2.2.2∧True∧(zT4)∧True else (zFit ((p_3.1:Int)+1))∧∃ (p':Nat×q03×q02×q04),(q9y e p' p_2)∧p_2.2.2.2.2.2.2.1.length-p'.1<p_2.2.2.2.2.2.2.1.length-p_3.1∧(qa6 p' p_2 p_3)∧(q3d e p_2)∧True∧True∧(qfg p p' p_2 p_5)∧(q44 book p_2)∧True∧True∧p_5.2=p'.2.2.2∧True∧(zT4)∧True else False else False else (zFit ((p_2.1:Int)+1))∧∃ (p':Nat×q03×q02×q0f×q04),(p'.1≤Q5 book∧q0a e p'.2.1∧q27 (Q4 p'.1 book) p'.2.2.1∧q2d (Q4 p'.1 book) p'.2.2.2.1∧q2e e (Q4 p'.1 book) p'.2.2.2.2∧e.shelf [] (Q4 p'.1 book)=true)∧Q5 book-p'.1<Q5 book-p.1∧((p_2.1:Int)+1=(p'.1:Int)∧True∧True∧True∧zE book∧zE (↑(Q5 book):Int)∧True)∧((zE e.lang∧zE e.ws∧True)∧(zE e.lang∧zE e.ws∧True∧zE e.c∧True)∧(zT4)∧(zE e.lang∧zE e.ws∧True)∧True)∧True∧True∧(p_3.2.1=p'.2.1∧putK (Cod.key p_2.2.2.2.2.2.2.1) true p_2.2.2.1=p'.2.2.1∧Mp.put (λ(x x_1:List UInt8)=>x==x_1) p_2.2.2.2.2.2.1 true p_2.2.2.2.1=p'.2.2.2.1∧True)∧True∧True∧True∧p_3.2.2.2=p'.2.2.2.2∧True else true=e.proper book:=by
 delta q39 q3d q4k q44 qew q7k q9y qca zCoG0_8 zCoG0_9 ql1 qa6 q8a qkh qkr qfg q86 qg9 qcm qkj qkm qkk qli q4u qfv qki ql7 zFit zE zT4 zT5
 obtain ⟨hW,hC,hB1,hB2⟩:=h;have hW:q0j (e.lang,e.ws):=hW;have hC:q0n e.c:=hC;have hB1:book.length≤1000000:=hB1;simp only [true_and,and_true,eq_self,and_self,Nat.beq_refl,Bool.and_self,Bool.true_and,cond_true,Int.toNat_natCast,forall_const,exists_const,true_implies];have pr:e.proper book=(e.ok&&(decide ((book.length:Int)≤20000)&&e.shelf [] book)):=rfl;have ok:e.ok=(Snd.q0c e.lang e.ws&&Snd.q0h e.c):=rfl;refine ⟨?_,?_⟩
 ·clear pr
  generalize Snd.q0c e.lang e.ws=v at *
  generalize Snd.q0h e.c=q at *
  cases v <;> cases q <;> simp [hW,hC]
 rw [← ok];refine bifP (λhok=>?_) λhok=>bifP (λh2=>?_) λh2=>?_
 ·rw [pr,show e.ok=false from (by cases hh:e.ok <;> simp_all),Qq]
 ·rw [pr,decide_eq_false (by have:=of_decide_eq_true h2;omega),Qq,Bool.and_false]
 have hok:e.ok=true:=by
  cases hh:e.ok
  ·rw [hh] at hok;cases hok
  ·rfl
 have hlen:book.length≤20000:=by have:=of_decide_eq_false h2;omega
 have pr:e.proper book=e.shelf [] book:=by rw [pr,hok,decide_eq_true (by omega)];simp
 rw [pr];refine ⟨⟨(0,[],[],[],[]),⟨Qe _,qfw e,codes_nil,doors_nil,mist_nil e,rfl⟩,by and_intros <;> rfl⟩,?_⟩
 rintro ⟨i,nr,cm,dm,mm⟩ ⟨hi,hn,hc,hd,hm,hs⟩;dsimp only at *
 refine bifP (λhil=>?_) λhil=>?_
 rotate_left
 ·rw [← List.take_of_length_le (l:=book) (i:=i) (by have:=of_decide_eq_false hil;omega)]
  exact hs.symm
 have hil:i<book.length:=by have:=of_decide_eq_true hil;omega
 refine ⟨⟨⟨by omega,by omega⟩,⟨(i,nr,cm,dm,mm,book.getD i Cod.noG),⟨rfl,hil,rfl,hn,hc,hd,hm,hs⟩,by and_intros <;> rfl⟩⟩,?_⟩
 rintro ⟨i,nr,cm,dm,mm,g⟩ ⟨hii,hil,hg,hn,hc,hd,hm,hs⟩;dsimp only at *
 obtain ⟨hg1,hg2⟩:g.1.length≤1000∧g.2.1.length≤1000000:=hB2 g (by rw [hg];exact Snd.q1n book _ i hil)
 have no:e.fits (book.take i) g=false→false=e.shelf [] book:=λh=>(shelf_no hil (by rw [hg] at h;exact h)).symm
 have fitsE:e.fits (book.take i) g=(Lx.q0v g.1&&(!((getS g.1 dm).getD false)&&(Cod.q1g g&&(Cod.q0q e.lang e.ws g.2.1&&e.takes (book.take i) g)))):=by
  rw [hd g.1];rfl
 refine ⟨⟨hg1,bifP (λhnm=>no ?_) λhnm=>bifP (λhdo=>no ?_) λhdo=>bifP (λhpl=>no ?_) λhpl=>⟨⟨hW,hg2⟩,bifP (λhcd=>no ?_) λhcd=>?_⟩⟩,?_⟩
 ·rw [fitsE,q4v hnm];rfl
 ·rw [fitsE,show (getS g.1 dm).getD false=true from hdo];simp
 ·rw [fitsE,q4v hpl];simp
 ·rw [fitsE,q4v hcd];simp
 ·have hcd:=q49 hcd
  obtain ⟨⟨hg3,hg5⟩,hin⟩:=q4l hcd;have takesE:e.takes (book.take i) g=q42 e cm mm g:=qkz hc hm (qi6 hs) hg5;rw [takesE] at fitsE;have hmm:∀ k,((getK k mm).getD []).length≤1000000:=λk=>by
   have:=qiu hm k
   rw [Qm] at this;omega
  refine bifP (λhk1=>no ?_) λhk1=>bifP (λhk2=>no ?_) λhk2=>?_
  ·rw [fitsE];unfold q42;rw [hk1];simp
  ·have hk2:=of_decide_eq_true hk2
   rw [fitsE];unfold q42;rw [show (((getK (Cod.key g.2.1) mm).getD []).length==0)=false from beq_eq_false_iff_ne.2 (by omega)];simp
  have hk2:(((getK (Cod.key g.2.1) mm).getD []).length==0)=true:=beq_iff_eq.2 (by have:=of_decide_eq_false hk2;omega)
  have noX:∀ x∈e.miss g.2.1,q0x cm mm g x=false→false=e.shelf [] book:=λx hx hgx=>by
   apply no
   rw [fitsE];unfold q42;rw [show (e.miss g.2.1).all (q0x cm mm g)=false from List.all_eq_false.2 ⟨x,hx,by rw [hgx];decide⟩];simp
  refine ⟨⟨(0,nr,cm,mm),⟨Qe _,hn,rfl⟩,by and_intros <;> rfl⟩,?_⟩
  rintro ⟨k,nr,_,_⟩ ⟨hkl,hn,hgood⟩;dsimp only at *
  refine bifP (λhkl=>?_) λhkl=>?_
  rotate_left
  ·have hkl:=of_decide_eq_false hkl
   refine ⟨(i,nr,cm,dm,mm,g),⟨rfl,hil,hg,hn,hc,hd,hm,?_⟩,by and_intros <;> rfl⟩
   rw [q9q hil,hs,← Cod.noG,← hg,fitsE];unfold q42;have hkk:k=g.2.1.length:=by omega
   rw [q49 hnm,show (getS g.1 dm).getD false=false from hdo,q49 hpl,hcd,hk1,hk2,show e.miss g.2.1=e.q0i g.2.1 k 0 by rw [hkk];rfl,hgood];rfl
  have hkl:k<g.2.1.length:=by have:=of_decide_eq_true hkl;omega
  obtain ⟨hw0,hw1⟩:=hin k hkl;refine ⟨⟨by omega,by omega⟩,q7m hn hW hC hw0 hw1,?_⟩
  intro nr hn;have hnl:(e.near (g.2.1.getD k 0)).length≤1000000:=Qf (q6d e _) hW.2.1;have next:(e.q2g g.2.1 k).all (q0x cm mm g)=true→(e.q0i g.2.1 (k+1) 0).all (q0x cm mm g)=true:=λh=>by
   rw [q3t,Q9,hgood,h];rfl
  refine ⟨⟨(0,cm,mm),⟨Qe _,rfl⟩,by and_intros <;> rfl⟩,?_⟩
  rintro ⟨q,_,_⟩ ⟨hql,hpart⟩;dsimp only at *
  refine bifP (λhq=>?_) λhq=>?_
  ·have hq:q<(e.near (g.2.1.getD k 0)).length:=by have:=of_decide_eq_true hq;omega
   refine ⟨⟨by omega,by omega⟩,bifP (λhne=>?_) λhne=>?_⟩
   ·refine ⟨by omega,⟨by omega,by omega⟩,?_⟩
    refine q66 (hmm _) (noX _ (qld hq hkl hne)) λhgx=>?_
    refine ⟨⟨by omega,by omega⟩,(q+1,cm,mm),⟨by omega,?_⟩,by omega,by and_intros <;> omega⟩
    rw [q2v hq,if_pos hne,Q9,hpart,Qb,hgx];rfl
   ·refine ⟨⟨by omega,by omega⟩,(q+1,cm,mm),⟨by omega,?_⟩,by omega,by and_intros <;> omega⟩
    rw [q2v hq,if_neg (by rw [hne];decide),Qh,hpart]
  have hq:=of_decide_eq_false hq;have full:=q75 (e:=e) (code:=g.2.1) (i:=k) (k:=q) (by omega)
  simp only [show ((k:Int)-1).toNat=k-1 by omega]
  refine ⟨⟨by omega,⟨by omega,by omega⟩,⟨by omega,by omega⟩,q66 (hmm _) (noX _ (qh4 hkl)) λh=>h⟩,λhge=>?_⟩
  refine bifP (λh0=>⟨⟨by omega,by omega⟩,(k+1,nr,cm,mm),⟨by omega,hn,next ?_⟩,by omega,by and_intros <;> first | rfl | omega⟩) λh0=>?_
  ·have h0:k=0:=by have:=beq_iff_eq.1 h0;omega
   rw [full,Q9,hpart,Qb,hge,if_pos (.inl h0)];rfl
  have h0:k≠0:=by have:=beq_eq_false_iff_ne.1 h0;omega
  refine ⟨⟨by omega,by omega⟩,⟨by omega,by omega⟩,bifP (λh1=>⟨⟨by omega,by omega⟩,(k+1,nr,cm,mm),⟨by omega,hn,next ?_⟩,by omega,by and_intros <;> first | rfl | omega⟩) λh1=>?_⟩
  ·rw [full,Q9,hpart,Qb,hge,if_pos (.inr (beq_iff_eq.1 h1))];rfl
  have h1:g.2.1.getD (k-1) 0≠g.2.1.getD k 0:=beq_eq_false_iff_ne.1 h1;refine ⟨⟨by omega,by omega⟩,⟨by omega,by omega⟩,by omega,⟨by omega,by omega⟩,⟨by omega,by omega⟩,⟨by omega,by rw [Qo];omega⟩,?_⟩
  refine q66 (x:=Cod.swapAt g.2.1 k) (hmm _) (noX _ (qlg hkl h0 h1)) λhgx=>⟨⟨by omega,by omega⟩,(k+1,nr,cm,mm),⟨by omega,hn,next ?_⟩,by omega,by and_intros <;> first | rfl | omega⟩
  rw [full,Q9,hpart,Qb,hge,if_neg (λh=>h.elim h0 h1),Qb,hgx];rfl
 rintro ⟨i,nr,cm,dm,mm,g⟩ ⟨hii,hil,hg,hn,hc,hd,hm,hs⟩;dsimp only at *
 have hfit:e.fits (book.take i) g=true:=by
  have:=hs
  rw [q9q hil,Qd] at this;rw [hg];exact this.2
 have hcd:Cod.q0q e.lang e.ws g.2.1=true:=by
  have:=(Cod.ql3.1 hfit).1
  unfold Cod.okG at this;simp only [Qd] at this;exact this.2.2
 obtain ⟨⟨hg3,hg5⟩,hin⟩:=q4l hcd;have hdone:(book.take i).length≤20000:=by rw [Qm];omega
 refine ⟨⟨(0,nr,[],mm),⟨Qe _,hn,qbs [] mm g⟩,by and_intros <;> rfl⟩,?_⟩
 rintro ⟨k,nr,s,m⟩ ⟨hkl,hn,hrel⟩;dsimp only at *
 refine bifP (λhkl=>?_) λhkl=>?_
 rotate_left
 ·have hkl:=of_decide_eq_false hkl
  have tk:book.take (i+1)=book.take i++[g]:=by rw [hg];exact Snd.q0t book Cod.noG i hil
  refine ⟨⟨by omega,by omega⟩,(i+1,nr,putK (Cod.key g.2.1) true cm,Mp.put (λx x_1=>x==x_1) g.1 true dm,m),⟨by omega,hn,?_,?_,?_,hs⟩,by omega,by and_intros <;> first | rfl | omega⟩
  ·rw [tk];exact codes_put hc g
  ·rw [tk];exact doors_put hd g
  ·rw [tk]
   have hkk:k=g.2.1.length:=by omega
   rw [hkk] at hrel;exact mist_put hm hrel
 have hkl:k<g.2.1.length:=by have:=of_decide_eq_true hkl;omega
 obtain ⟨hw0,hw1⟩:=hin k hkl;refine ⟨⟨by omega,by omega⟩,q7m hn hW hC hw0 hw1,?_⟩
 intro nr hn;have hnl:(e.near (g.2.1.getD k 0)).length≤1000000:=Qf (q6d e _) hW.2.1;have next:∀ {s' m'},q0w s m g (e.q2g g.2.1 k) s' m'→q0w [] mm g (e.q0i g.2.1 (k+1) 0) s' m':=λh=>by
  rw [q3t];exact q18 hrel h
 refine ⟨⟨(0,s,m),⟨Qe _,qbs s m g⟩,by and_intros <;> rfl⟩,?_⟩
 rintro ⟨q,s1,m1⟩ ⟨hql,hpart⟩;dsimp only at *
 have room:∀ k,(((getK k (putK k ((getK k m1).getD []) m1)).getD []).length+[g].length)*64≤140737488355328:=qfs hm hdone (q18 hrel hpart);refine bifP (λhq=>?_) λhq=>?_
 ·have hq:q<(e.near (g.2.1.getD k 0)).length:=by have:=of_decide_eq_true hq;omega
  refine ⟨⟨by omega,by omega⟩,bifP (λhne=>?_) λhne=>?_⟩
  ·refine ⟨by omega,⟨by omega,by omega⟩,bifP (λhx=>?_) λhx=>?_⟩
   ·refine ⟨room _,⟨by omega,by omega⟩,(q+1,_,_),⟨by omega,?_⟩,by omega,by and_intros <;> first | rfl | omega⟩
    rw [q2v hq,if_pos hne];exact q18 hpart (q6j (q4v hx))
   ·refine ⟨⟨by omega,by omega⟩,(q+1,s1,m1),⟨by omega,?_⟩,by omega,by and_intros <;> first | rfl | omega⟩
    rw [q2v hq,if_pos hne];exact q18 hpart (q6m (q49 hx))
  ·refine ⟨⟨by omega,by omega⟩,(q+1,s1,m1),⟨by omega,?_⟩,by omega,by and_intros <;> first | rfl | omega⟩
   rw [q2v hq,if_neg (by rw [hne];decide),Qh];exact hpart
 have hq:=of_decide_eq_false hq;have full:=q75 (e:=e) (code:=g.2.1) (i:=k) (k:=q) (by omega)
 simp only [show ((k:Int)-1).toNat=k-1 by omega]
 refine ⟨⟨by omega,⟨by omega,by omega⟩,⟨by omega,by omega⟩,bifP (λhx=>⟨room _,(_,_),q6j (q4v hx),by and_intros <;> rfl⟩) λhx=>⟨(s1,m1),q6m (q49 hx),by and_intros <;> rfl⟩⟩,?_⟩
 rintro ⟨s2,m2⟩ hr2;dsimp only at *
 have room2:∀ k,(((getK k (putK k ((getK k m2).getD []) m2)).getD []).length+[g].length)*64≤140737488355328:=qfs hm hdone (q18 (q18 hrel hpart) hr2);have fin1:(k=0∨g.2.1.getD (k-1) 0=g.2.1.getD k 0)→q0w s m g (e.q2g g.2.1 k) s2 m2:=λh=>by
  rw [full,if_pos h];exact q18 hpart hr2
 refine bifP (λh0=>⟨⟨by omega,by omega⟩,(k+1,nr,s2,m2),⟨by omega,hn,next (fin1 (.inl (by have:=beq_iff_eq.1 h0;omega)))⟩,by omega,by and_intros <;> first | rfl | omega⟩) λh0=>?_
 have h0:k≠0:=by have:=beq_eq_false_iff_ne.1 h0;omega
 refine ⟨⟨by omega,by omega⟩,⟨by omega,by omega⟩,bifP (λh1=>⟨⟨by omega,by omega⟩,(k+1,nr,s2,m2),⟨by omega,hn,next (fin1 (.inr (beq_iff_eq.1 h1)))⟩,by omega,by and_intros <;> first | rfl | omega⟩) λh1=>?_⟩
 have h1:g.2.1.getD (k-1) 0≠g.2.1.getD k 0:=beq_eq_false_iff_ne.1 h1;have fin2:∀ {s' m'},q0w s2 m2 g [Cod.swapAt g.2.1 k] s' m'→q0w s m g (e.q2g g.2.1 k) s' m':=λh=>by
  rw [full,if_neg (λh=>h.elim h0 h1)];exact q18 hpart (q18 (xs:=[g.2.1.eraseIdx k]) (ys:=[Cod.swapAt g.2.1 k]) hr2 h)
 refine ⟨⟨by omega,by omega⟩,⟨by omega,by omega⟩,by omega,⟨by omega,by omega⟩,⟨by omega,by omega⟩,⟨by omega,by rw [Qo];omega⟩,bifP (λhx=>?_) λhx=>?_⟩
 ·exact ⟨room2 _,⟨by omega,by omega⟩,(k+1,nr,_,_),⟨by omega,hn,next (fin2 (q6j (x:=Cod.swapAt g.2.1 k) (q4v hx)))⟩,by omega,by and_intros <;> first | rfl | omega⟩
 ·exact ⟨⟨by omega,by omega⟩,(k+1,nr,s2,m2),⟨by omega,hn,next (fin2 (q6m (x:=Cod.swapAt g.2.1 k) (q49 hx)))⟩,by omega,by and_intros <;> first | rfl | omega⟩
theorem kitCo_ok:kitCo.Ok Tryz.prog where
 cons:=all_cons qlk (all_cons qho (all_cons q5t (all_cons (show cKey.lent.Holds Tryz.prog from key_holds) (all_cons q7v (all_cons qd3 (all_cons qfu (all_cons qk5 all_nil)))))))
 ns:=all_cons qdu all_nil
 os:=all_cons qch all_nil
 fcs:=all_nil
 rcs:=all_nil
 inls:=q0l.more Tryz.func40 (by kernel_rfl) (by kernel_rfl) (q0l.more Tryz.func49 (by kernel_rfl) (by kernel_rfl) (q0l.more Tryz.func54 (by kernel_rfl) (by kernel_rfl) (q0l.more Tryz.func101 (by kernel_rfl) (by kernel_rfl)
  (q0l.more Tryz.func42 (by kernel_rfl) (by kernel_rfl) (q0l.more Tryz.func89 (by kernel_rfl) (by kernel_rfl) (q0l.more Tryz.func90 (by kernel_rfl) (by kernel_rfl) (q0l.more Tryz.func92 (by kernel_rfl) (by kernel_rfl)
  (q0l.more Tryz.func104 (by kernel_rfl) (by kernel_rfl) (q0l.more Tryz.func52 (by kernel_rfl) (by kernel_rfl) (q0l.more Tryz.func84 (by kernel_rfl) (by kernel_rfl) q0l.nil))))))))))
set_option maxRecDepth 100000000 in
theorem qgm:qg4.Holds Tryz.prog:=by
 refine holdsX (T:=kitCo) (λp=>anCo upP (frT 14000) (frP 14000) ⟨p.1.1,p.1.2,p.2.1⟩ p.2.2) Tryz.func23 (by kernel_rfl) (by kernel_rfl) mixed (by kernel_rfl) kitCo_ok (λ_=>[]) λp hp=>?_
 obtain ⟨⟨lang,ws⟩,c,book⟩:=p;refine cast ?_ (proper_vc ⟨lang,ws,c⟩ book hp)
 kernel_rfl
abbrev kIs:Kds:=.one (.sl (.one (.int .i64)))
abbrev q6k:CK:=.one (.sl kIs)
def LongL (l:List (List Int)):Prop:=l.length≤1000000000000000∧∀ x∈l,x.length≤1000000000000000
def cEq:Con:=.of 39 [q2h,q2h] [q2p] (λp=>Q5 p.1≤1000000000000000) (λp=>p.1==p.2)
def anEq (a b:List Int):List (Nat×Ann) :=
 [ann 0 Nat [0,1] (λk=>[(5,R.int .i64 k)]) (λk=>k≤a.length∧a.take k=b.take k) (λk=>a.length-k)]
def cLess:Con:=.of 127 [q2h,q2h] [q2p] (λp=>Q5 p.1≤1000000000000000) (λp=>Cod.q3u p.1 p.2)
def anLess (a b:List Int):List (Nat×Ann) :=
 [ann 0 Nat [0,1] (λk=>[(5,R.int .i64 k)]) (λk=>k≤a.length∧k≤b.length∧a.take k=b.take k) (λk=>a.length-k)]
def cSameL:Con:=.of 22 [q6k,q6k] [q2p] (λp=>LongL p.1) (λp=>p.1==p.2)
def anSameL (a b:List (List Int)):List (Nat×Ann) :=
 [ann 0 Nat [0,1] (λk=>[(5,R.int .i64 k)]) (λk=>k≤a.length∧a.take k=b.take k) (λk=>a.length-k)]
def cSame:Con:=.of 25 [q5i,q5i] [q2p] (λp=>Q5 p.1.2.1≤1000000000000000) (λp=>p.1==p.2)
def q5c (l:WlP) (c:CfP) (book:q13) (most:Int):Bool:=q82 l&&(q7c c&&(decide (l.2.length≤8)&&(decide (c.length≤10)&&(decide ((book.length:Int)≤most)&&book.all λg=>decide (g.2.1.length≤8)&&decide (g.1.length≤60)))))
def cFew41:Con:=.of 26 [ckWl,ckCf,q7s,q57] [q2p] (λp=>p.2.2.2≤1000) (λp=>q5c p.1 p.2.1 p.2.2.1 p.2.2.2)
def anFew41 (book:q13):List (Nat×Ann) :=
 [ann 0 Nat [2] (λk=>[(9,R.int .i64 k)]) (λk=>k≤book.length∧(book.take k).all (λg=>decide (g.2.1.length≤8)&&decide (g.1.length≤60))=true) (λk=>book.length-k)]
end Go.Proofs.YtlfaaoalgcbcoaaGreatDoor

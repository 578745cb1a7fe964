/-
  Several texts in one: CrA, HeSpec, HeLaw, CoU, HeE, HeF, HeG, HeH, HeLB, HeLC, CoGA, HeI, HeJL, HeK.
-/
import Derived.Test.YtlfaaoalgcbcoaaGreatDoorPA
import Derived.Test.YtlfaaoalgcbcoaaGreatDoorPP
import Derived.Lib.Join
import Derived.Test.YtlfaaoalgcbcoaaGreatDoorPL
open List renaming length→Q0,getD→Q7,take→Q8,length_append→Q9,take_of_length_le→Qb,eq_nil_of_length_eq_zero→Qc,length_take→Qd,drop→Qf,length_map→Qg,length_singleton→Qh,getD_eq_getElem?_getD→Qi,getElem?_eq_getElem→Qj,length_cons→Qk,length_drop→Qn,drop_eq_nil_of_le→Qp,all_append→Qq,take_succ_cons→Qr,mem_range→Qs,length_eraseIdx_of_lt→Qt,any_eq_false→Qv,getElem?_eq_some_iff→Qy,drop_eq_getElem_cons→Qz,isEmpty_eq_false_iff→QA,any_eq_true→QD,length_set→QF,all_cons→QH,take_length→QK,cons_append→QL,all_eq_true→QM,append_nil→QO,replicate→QP
open Go.Lib renaming indexByte→Q4,indexByte_some→QI,idxFuncFrom→QN
open Bool renaming and_eq_true→Qa,true_and→Qu,not_eq_true'→Qw,or_true→QJ,false_and→QQ
open Nat renaming zero_le→Qe,le_refl→Qo,beq→QC,not_lt_zero→QE
open Int renaming eq_ofNat_of_zero_le→Ql
open Go.Value renaming string→Qm,bool→QG
open Go.RowKit.Below renaming refl→Qx
set_option linter.unusedVariables false
namespace Go.Proofs.YtlfaaoalgcbcoaaGreatDoor
open Go.RowKit R
abbrev kLs:Kds:=.one (.sl kIs)
abbrev ckLLs:CK:=.one (.sl kLs)
abbrev q04 (l:WlP) (c:CfP):Cod.Ear:=⟨l.1,l.2,c⟩
def datL (l:List (List Int)):AV:=.c (.one (.val (.sl kIs) l))
def cQValid:Con:=.of 21 [ckWl,q44] [q13] (λp=>q0w p.1∧Q0 p.2≤1000000) (λp=>Cod.q1l p.1.1 p.1.2 p.2)
def anQValid (n:Nat) (code:List Int):List (Nat×Ann) :=
 [annX 0 Nat (λst k=>st.hd { live:=[1,2],sav:=[],box:=[2] } [(5,R.int .i64 k)] [] [] [] none) (λ_ k=>k≤code.length∧Cod.inB n (code.take k)=true) (λ_ k=>code.length-k)]
def cQIn:Con:=.of 108 [qbg,q44] [q13] (λp=>q3s p.1) (λp=>List.any p.1 λy=>y==p.2)
def anQIn (l:List (List Int)) (x:List Int):List (Nat×Ann) :=
 [annX 0 Nat (λst k=>st.hd { live:=[0,1],sav:=[],box:=[] } [(5,R.int .i64 k)] [] [] [] none) (λ_ k=>k≤l.length∧(l.take k).any (λy=>y==x)=false) (λ_ k=>l.length-k)]
def cQPut:Con:=.of 97 [qbg,q44,q44] [qbg] (λp=>q3s p.1∧Q0 p.2.1≤1000000) (λp=>Cod.putR p.1 p.2.1 p.2.2)
def anQPut (l:List (List Int)) (x:List Int):List (Nat×Ann) :=
 [annX 0 Nat (λst k=>st.hd { live:=[0,1,2],sav:=[],box:=[] } [(7,R.int .i64 k)] [] [] [] none) (λ_ k=>k≤l.length∧(l.take k).all (λy=>Cod.q3h y x)=true) (λ_ k=>l.length-k)]
def q3i (l:WlP) (c:CfP):Prop:=q0w l∧q0n c∧Q0 l.2≤1000
def SmallC (l:WlP) (code:List Int):Prop:=code.length≤1000∧Cod.inB l.2.length code=true
def cQMis:Con:=.of 47 [ckWl,ckCf,q44] [qbg] (λp=>q3i p.1 p.2.1∧SmallC p.1 p.2.2) (λp=>Cod.q4y ((q04 p.1 p.2.1).miss p.2.2))
def anQMis (l:WlP) (c:CfP) (code:List Int):List (Nat×Ann) :=
  [annX 0 (Nat×List (List Int)) (λst p=>st.hd { live:=[1,2,3],sav:=[],box:=[3] } [(7,datL p.2),(8,R.int .i64 p.1)] [] [] [] none)
    (λ_ p=>p.1≤code.length∧p.2.length≤p.1*1002∧Cod.q45 p.2 (Cod.upTo (q04 l c) code p.1)) (λ_ p=>code.length-p.1),
   annX 2 (Nat×List (List Int)) (λst p=>st.hd { live:=[1,2,3,8,9,10],sav:=[],box:=[3] } [(7,datL p.2),(11,R.int .i64 p.1)] [] [] [] none)
    (λst p=>p.1≤((q04 l c).near (code.getD (st.intOf 8).toNat 0)).length∧p.2.length≤(st.intOf 8).toNat*1002+p.1∧Cod.q45 p.2 (Cod.q4w (q04 l c) code (st.intOf 8).toNat p.1)) (λst p=>((q04 l c).near (code.getD (st.intOf 8).toNat 0)).length-p.1),
   behindAt 12 (List (List Int)) (λst m=>st.hd { live:=[1,2,3,8],sav:=[],box:=[3] } [(7,datL m)] [] [] [] none) (λst m=>m=Cod.putR (Get.slOf kIs 7 st) (code.take (st.intOf 8).toNat++code.drop ((st.intOf 8).toNat+1)) code)]
def cQPlaced:Con:=.of 57 [ckGiv] [q13] (λ_=>True) Cod.q2r
def cQNear:Con:=.of 109 [ckGiv,ckGiv] [q13] (λ_=>True) (λp=>Cod.q11 p.1 p.2)
def cQFits:Con:=.of 59 [ckGiv,qbg,ckGiv,qbg] [q13] (λp=>Q0 p.1.2.1≤1000000∧q3s p.2.1∧q3s p.2.2.2) (λp=>Cod.q7f p.1 p.2.1 p.2.2.1 p.2.2.2)
def anQFits (a b:List (List Int)):List (Nat×Ann) :=
 [annX 0 Nat (λst k=>st.hd { live:=[1,3,4,6],sav:=[],box:=[4,6] } [(9,R.int .i64 k)] [] [] [] none) (λ_ k=>k≤a.length∧(a.take k).all (λz=>!(b.any λw=>w==z))=true) (λ_ k=>a.length-k)]
def SmallB (l:WlP) (book:List Cod.Giv):Prop:=book.length≤1000∧∀ g∈book,SmallC l g.2.1
def cQAll:Con:=.of 58 [ckWl,ckCf,q43] [ckLLs] (λp=>q3i p.1 p.2.1∧SmallB p.1 p.2.2) (λp=>Cod.allM (q04 p.1 p.2.1) p.2.2)
def anQAll (l:WlP) (c:CfP) (book:List Cod.Giv):List (Nat×Ann) :=
  [annX 0 Nat (λst k=>st.hd { live:=[1,2,3],sav:=[],box:=[3] } [(7,ownAV 25),(8,R.int .i64 k)] [] [(25,⟨41,kLs,Cod.allM (q04 l c) (book.take k)⟩)] [] none) (λ_ k=>k≤book.length) (λ_ k=>book.length-k),
   q65 5]
def q8n (book:List Cod.Giv):Prop:=book.length≤1000∧∀ g∈book,g.1.length≤1000000∧g.2.1.length≤1000
def qeu:Con:=.of 24 [ckWl,ckCf,q43] [q13] (λp=>q3i p.1 p.2.1∧q8n p.2.2) (λp=>(q04 p.1 p.2.1).proper p.2.2)
abbrev giv0:Cod.Giv:=([],[],false,0,0)
def twoTo (e:Cod.Ear) (book:List Cod.Giv) (i j:Nat):Prop:=∀ k,k<j→e.two (book.getD k giv0) (book.getD i giv0)
def anQProper (l:WlP) (c:CfP) (book:List Cod.Giv):List (Nat×Ann) :=
  [annX 0 Nat (λst k=>st.hd { live:=[1,2,3],sav:=[],box:=[3] } [(7,R.int .i64 k)] [] [] [] none) (λ_ k=>k≤book.length∧∀ g∈book.take k,Cod.okG (q04 l c) g=true) (λ_ k=>book.length-k),
   annX 2 Nat (λst k=>st.hd { live:=[1,2,3,8],sav:=[],box:=[3] } [(9,R.int .i64 k)] [] [] [] none) (λ_ k=>k≤book.length∧∀ i,i<k→twoTo (q04 l c) book i i) (λ_ k=>book.length-k),
   annX 4 Nat (λst j=>st.hd { live:=[1,2,3,8,9],sav:=[],box:=[3] } [(10,R.int .i64 j)] [] [] [] none) (λst j=>j≤(st.intOf 9).toNat∧twoTo (q04 l c) book (st.intOf 9).toNat j) (λst j=>(st.intOf 9).toNat-j)]
end Go.Proofs.YtlfaaoalgcbcoaaGreatDoor
namespace Go.Proofs.YtlfaaoalgcbcoaaGreatDoor
namespace Hea
abbrev Str:=List UInt8
def cutW:Str→List Str
 | []=>[[]]
 | c::r=>if c==32 then []::cutW r else match cutW r with
  | w::ws=>(c::w)::ws
  | []=>[[c]]
def q5e (w:Str):Bool:=!w.isEmpty&&(decide (w.length≤12)&&w.all λc=>decide (97≤c.toNat)&&decide (c.toNat≤122))
def q5b (text:Str):Option (List Str):=if (cutW text).all q5e&&decide ((cutW text).length≤5) then some (cutW text) else none
def ownW (ws:List Str) (code:List Int):List Str:=code.map λi=>ws.getD i.toNat []
def diff:List Str→List Str→List (Str×Str)
 | x::a,y::b=>if x==y then diff a b else (x,y)::diff a b
 | _,_=>[]
def q3r (alike:Str→Str→Bool) (own words:List Str):Bool :=
 own.length==words.length&&((diff own words).all (λp=>alike p.1 p.2)&&(diff own words).length==1)
def q46 (own words:List Str):Bool:=(List.range own.length).any λi=>own.eraseIdx i==words
def q1c (own:List Str) (i:Nat):List Str:=(own.set i (own.getD (i+1) [])).set (i+1) (own.getD i [])
def q47 (own words:List Str):Bool:=(List.range (own.length-1)).any λi=>q1c own i==words&&own.getD i [] != own.getD (i+1) []
def qa9 (alike:Str→Str→Bool) (own words:List Str):Bool:=q3r alike own words||(q46 own words||q47 own words)
def q0l (alike:Str→Str→Bool) (ws:List Str) (words:List Str):List Cod.Giv→List Str→Str×Bool×Int
 | [],doors=>match doors with
  | []=>([],false,10)
  | [d]=>(d,true,0)
  | _=>([],false,8)
 | g::r,doors=>if ownW ws g.2.1==words then (g.1,false,0)
  else q0l alike ws words r (if qa9 alike (ownW ws g.2.1) words then doors++[g.1] else doors)
def q07 (e:Cod.Ear) (x y:Str):Bool:=Snd.q0m e.c x y
def q1f (e:Cod.Ear) (book:List Cod.Giv) (text:Str):Str×Bool×Int :=
 if !e.proper book then ([],false,1) else match q5b text with
  | none=>([],false,5)
  | some words=>q0l (q07 e) e.ws words book []
def q02 (p:Cod.Pt) (g:Cod.Giv):Bool:=g.2.2.1&&decide (Cod.q1n (Cod.ptOf g) p≤250000)
def q29 (e:Cod.Ear) (book:List Cod.Giv) (p:Cod.Pt) (text:Str):Str×Bool×Int :=
 if !(e.proper book&&Cod.onB p) then ([],false,1) else match q5b text with
  | none=>([],false,5)
  | some words=>q0l (q07 e) e.ws words (book.filter (q02 p)) []
end Hea
namespace Hea
theorem qlq {e:Cod.Ear} {book:List Cod.Giv} (h:e.proper book=true) (p:Cod.Giv→Bool):e.proper (book.filter p)=true:=by
 obtain ⟨hok,hl,hg,hp⟩:=Cod.q5v.1 h;refine Cod.q5v.2 ⟨hok,Nat.le_trans (List.length_filter_le _ _) hl,λg hgm=>hg g (List.mem_filter.1 hgm).1,hp.sublist List.filter_sublist⟩
end Hea
open Go.RowKit R
abbrev ckErr1:CK:=.one (.int .i64)
abbrev kS:Kds:=.one .str
def nCloneS:NCon:={ f:=117,args:=[qac],e:=9,fs:=kS,pre:=λl _=>Q0 l≤1000000,F:=λl _=>l }
def qjt:OCon:={ f:=116,e:=9,fs:=kS,args:=[q7h,q7h],ret:=true,pre:=λxs p _=>p.2=p.1+1∧0≤p.1∧p.1<(Q0 xs:Int),F:=λxs p _=>List.eraseIdx xs p.1.toNat }
def cEqS:Con:=.of 75 [qac,qac] [q13] (λp=>Q0 p.1≤1000000∧Q0 p.2≤1000000) (λp=>p.1==p.2)
section
variable {κ:Cx} {w:World}
theorem qhd {S:Nat→Prop} {l:List (List UInt8)} {A:Option Addr} (hrow:0<l.length→∃ g off,A=some ⟨g,off,none⟩∧g<w.heap.size∧S g∧∀ (i:Nat) (x:List UInt8),l[i]? = some x→kS.Rep w S x g (off+i*kS.size)) (hp:0<l.length) :
  ∃ g off,A=some ⟨g,off,none⟩∧g<w.heap.size∧∀ j,j<(l.map bs).length→w.cell? ⟨g,off+j,none⟩=some (.string ((l.map bs).getD j ByteArray.empty)):=by
 obtain ⟨g,off,e,hg,_,h⟩:=hrow hp;refine ⟨g,off,e,hg,λj hj=>?_⟩
 have hj':j<l.length:=by rwa [Qg] at hj
 obtain ⟨u,hu,hr⟩:=h j _ (Qj hj');have hr:u=.string (bs l[j]):=hr;have e:off+j*kS.size=off+j:=by show off+j*1=_;omega
 rw [e] at hu;rw [hu,hr,Qi,List.getElem?_map,Qj hj'];rfl
end
theorem map_bs_eq (a b:List (List UInt8)):decide (a.map bs=b.map bs)=(a==b):=by
 by_cases h:a=b
 ·subst h;rw [decide_eq_true rfl];exact (beq_self_eq_true a).symm
 ·rw [beq_eq_false_iff_ne.2 h]
  exact decide_eq_false λe=>h ((List.map_inj_right λx y=>qdz.1).1 e)
theorem qge:nCloneS.Holds Tryz.prog:=by
 refine ⟨⟨_,Tryz.func117,by kernel_rfl,by kernel_rfl⟩,λp b vs fvs w S hS hpre hvs hfa=>?_⟩
 have hfa:fvs=[]:=hfa;subst hfa;obtain ⟨v,rfl,hv⟩:=q1e hvs;obtain ⟨A,c,rfl,hc,hrow⟩:=hv;obtain ⟨p,rfl⟩:∃ q:List (List UInt8),q=p:=⟨p,rfl⟩;have hpre:p.length≤1000000:=hpre;have fin:∀ (u:Value) (w':World),w'.ownsRow w.heap.size 9 1 u p.length (p.map λx=>Qm (bs x))→Below w.heap.size w w'→Below w.heap.size w w'∧∃ u' cells,Ending.returned u=.returned u'∧w'.ownsRow w.heap.size 9 1 u' p.length cells∧q0g (Cx.of S) w kS p cells:=λu w' ho hb =>
  ⟨hb,u,_,rfl,ho,q6b (k:=.str) (enc:=λx=>Qm (bs x)) p (λx=>rfl)⟩
 by_cases h0:p.length=0
 ·obtain rfl:=Qc h0
  cases A with
  | none =>
   refine (Tryz.slices_Clone_string_nil 0 c w).mono ?_;rintro e w' ⟨rfl,rfl⟩;exact fin _ _ (World.ownsRow_nil _ _ _ _) (Qx _ _)
  | some ad =>
   refine (Tryz.slices_Clone_string_zero ad c w).mono ?_;rintro e w' ⟨v',rfl,ho,_,hb⟩;exact fin _ _ ho hb
 ·obtain ⟨g,off,rfl,hg,hcells⟩:=qhd hrow (by omega)
  refine (Tryz.slices_Clone_string g off p.length c (p.map bs) w (by rw [Qg];exact Qo _) (by omega) hcells).mono ?_
  rintro e w' ⟨v',rfl,ho,_,hb⟩;rw [← List.map_take,QK,List.map_map] at ho;exact fin _ _ ho hb
theorem qm1 (l:List (List UInt8)) (i:Nat) (h:i<l.length):(l.take i++l.drop (i+1)++QP (i+1-i) []).take (l.length-(i+1-i))=l.eraseIdx i:=by
 rw [List.eraseIdx_eq_take_drop_succ,List.take_append_of_le_length (by rw [Q9,Qd,Qn];omega),Qb (by rw [Q9,Qd,Qn];omega)]
theorem qg0:qjt.Holds Tryz.prog:=by
 refine ⟨⟨_,Tryz.func116,by kernel_rfl,by kernel_rfl⟩,λxs p b v cells vs fvs w n0 S hn0 hS hvS hown hcells hpre hvs hfa _=>?_⟩
 have hfa:fvs=[]:=hfa;subst hfa;obtain ⟨⟨i,j⟩,rfl⟩:∃ q:Int×Int,q=p:=⟨p,rfl⟩;obtain ⟨xs,rfl⟩:∃ q:List (List UInt8),q=xs:=⟨xs,rfl⟩;have hpre:j=i+1∧0≤i∧i<(xs.length:Int):=hpre;obtain ⟨rfl,hi0,hil⟩:=hpre;have hvs2:vs=[.int .i64 i,.int .i64 (i+1)]:=by
  obtain ⟨h1,h2⟩:=hvs;obtain ⟨u0,e0,r0⟩:=h2 0 _ rfl;obtain ⟨u1,e1,r1⟩:=h2 1 _ rfl;have r0:u0=.int .i64 i:=r0;have r1:u1=.int .i64 (i+1):=r1
  match vs,h1 with
  | [a,b],_ =>
   injection e0 with e0;injection e1 with e1;rw [e0,e1,r0,r1]
 subst hvs2;have hcm:cells=xs.map (λx=>Qm (bs x)):=qhc (k:=.str) (enc:=λx=>Qm (bs x)) (λp v h=>h) hcells (by have:=hown.1;rw [this];exact Nat.mul_one _)
 subst hcm;have hown1:w.ownsRow n0 9 1 v xs.length (xs.map (λx=>Qm (bs x))):=hown
 have hnn:v≠.slice none 0 0:=λe=>by
  rcases hown1.2 with ⟨_,h0⟩ | ⟨g,cap,cur,h,_⟩
  ·rw [h0] at hil;omega
  ·rw [h] at e;cases e
 obtain ⟨g,cap,rfl,hg1,hg2,hc1,hc2,_,hH⟩:=Lib.holds_of_ownsRow hown1 hnn;obtain ⟨k,rfl⟩:=Ql hi0;have hk:k<xs.length:=by omega
 have hcap:cap≤9223372036854775807:=by unfold maxLen at hc2;omega
 have e1:((k:Int)+1)=((k+1:Nat):Int):=by omega
 rw [e1];refine (Tryz.slices_Delete_string g 0 cap k (k+1) xs w hH (by omega) hcap (Nat.le_succ _) (by omega)).mono ?_
 rintro e w' ⟨rfl,q,rfl⟩;have hrow:=Lib.ownsRow_putRow (q:=q) (k:=xs.length-(k+1-k)) (ys:=xs.take k++xs.drop (k+1)++QP (k+1-k) []) hown1 (by rw [Q9,Q9,Qd,Qn,List.length_replicate];omega) (by omega)
 rw [qm1 xs k hk] at hrow;refine ⟨?_,_,(xs.eraseIdx k).map (λx=>Qm (bs x)),rfl,?_,q6b (k:=.str) (enc:=λx=>Qm (bs x)) _ (λx=>rfl),λ_ g' hg'=>.inl hg',λh=>by cases h⟩
 ·exact ⟨rfl,rfl,rfl,by simp [Sort.putRow,Sort.mapBlock,Sort.ahead],λk' hk' hne=>by
   have:g≠k':=λe=>hne (by rw [← e];rfl)
   simp [Sort.putRow,Sort.mapBlock,Sort.ahead,Array.getElem?_modify,this]⟩
 ·have hl:(xs.eraseIdx k).length=xs.length-(k+1-k):=by rw [Qt hk];omega
  show World.ownsRow _ _ _ _ _ (xs.eraseIdx k).length _;rw [hl];exact hrow
theorem eqS_holds:cEqS.Holds Tryz.prog:=by
 refine ⟨⟨⟨_,Tryz.func75,by kernel_rfl,by kernel_rfl⟩,λF' hF p r hr=>by injection hF with hF;subst hF;exact hr⟩,λp vs w S hS hp hvs=>?_⟩
 obtain ⟨xs,ys⟩:=p;obtain ⟨hp1,hp2⟩:=hp;have hp1:xs.length≤1000000:=hp1;have hp2:ys.length≤1000000:=hp2;obtain ⟨v,v2,rfl,hv,hv2⟩:=two_args hvs;obtain ⟨A,c,rfl,hc,hrow⟩:=hv;obtain ⟨B,d,rfl,hd,hrow2⟩:=hv2;by_cases hnm:xs.length=ys.length
 ·by_cases h0:xs.length=0
  ·have h1:ys.length=0:=by omega
   obtain rfl:=Qc h0;obtain rfl:=Qc h1;refine (Tryz.slices_Equal_string_empty A B c 0 d w (by omega)).mono ?_
   rintro e w' ⟨rfl,rfl⟩;exact ⟨true,_,rfl,rfl,rfl,Qx _ _⟩
  ·obtain ⟨g,off,rfl,_,h1⟩:=qhd hrow (by show 0<xs.length;omega)
   obtain ⟨g2,off2,rfl,_,h2⟩:=qhd hrow2 (by show 0<ys.length;omega)
   refine (Tryz.slices_Equal_string g off xs.length c g2 off2 ys.length d (xs.map bs) (ys.map bs) w (by rw [Qg];exact Qo _) (by rw [Qg];exact Qo _) (by omega) (by omega) h1 h2).mono ?_
   rintro e w' ⟨rfl,q,rfl⟩;rw [Qb (by rw [Qg];exact Qo _),Qb (by rw [Qg];exact Qo _),map_bs_eq]
   exact ⟨(xs==ys),_,rfl,rfl,rfl,belN (Qx _ _) _⟩
 ·refine (Tryz.slices_Equal_string_lens A B xs.length c ys.length d w hnm).mono ?_
  rintro e w' ⟨rfl,rfl⟩;have hne:(xs==ys)=false:=beq_eq_false_iff_ne.2 λe=>hnm (by rw [e])
  refine ⟨(xs==ys),.bool false,rfl,rfl,?_,Qx _ _⟩;show QG false=QG (xs==ys);rw [hne]
def oddR (r:Int):Bool:=decide (r<97)||decide (122<r)
def cOdd:Con:=.of 71 [.one (.int .i32)] [q13] (λ_=>True) (λr=>oddR r)
def cIdx1:Con:=.of 162 [q28,q28] [q7h] (λp=>p.2=[32]) (λp=>Q4 p.1 32)
def cutF (s:List UInt8):List UInt8×List UInt8×Bool:=if 0≤Q4 s 32 then (s.take (Q4 s 32).toNat,s.drop ((Q4 s 32).toNat+1),true) else (s,[],false)
def cCut1:Con:=.of 136 [q28,q28] [q28,q28,q13] (λp=>Q0 p.1≤1000000∧p.2=[32]) (λp=>cutF p.1)
def cCut:Con:=.of 114 [q28,q28] [q28,q28,q13] (λp=>Q0 p.1≤1000000∧p.2=[32]) (λp=>cutF p.1)
theorem odd_vc (r:Int) (h:cOdd.pre r) :
    bif decide (r<(97:Int)) then true=oddR r else decide ((122:Int)<r)=oddR r
     := by
  unfold oddR;cases h1:decide (r<97)
  · show decide (122<r)=(false||decide (122<r));rw [Bool.false_or]
  · rfl
theorem cut1_vc (p:List UInt8×List UInt8) (h:cCut1.pre p) :
    p.2=[(32:UInt8)]∧bif decide ((0:Int)≤Q4 p.1 (32:UInt8)) then ((0:Int)≤(0:Int)∧(0:Int)≤Q4 p.1 (32:UInt8)∧Q4 p.1 (32:UInt8) ≤
    (p.1.length:Int))∧((-9223372036854775808:Int)≤Q4 p.1 (32:UInt8)+(p.2.length:Int)∧Q4 p.1 (32:UInt8)+(p.2.length:Int)≤(9223372036854775807 :
    Int))∧((0:Int)≤Q4 p.1 (32:UInt8)+(p.2.length:Int)∧Q4 p.1 (32:UInt8)+(p.2.length:Int)≤(p.1.length:Int)∧(p.1.length:Int)≤(↑p.1.length :
    Int))∧(Qf (Int.toNat (0:Int)) (Q8 (Q4 p.1 (32:UInt8)).toNat p.1),Qf (Q4 p.1 (32:UInt8)+(p.2.length:Int)).toNat (Q8
    (p.1.length:Int).toNat p.1),true)=cutF p.1 else (p.1,[],false)=cutF p.1
     := by
  obtain ⟨s,sep⟩:=p;obtain ⟨h1,h2⟩:=h;have h1:s.length≤1000000:=h1;obtain rfl:sep=[32]:=h2;have hlt:0≤Q4 s 32→Q4 s 32<(s.length:Int):=λh0=>by
    obtain ⟨n,hn⟩:=Ql h0;have h3:=(QI hn).1;have h4:n<s.length:=(Qy.1 h3).1;omega
  refine ⟨rfl,bifP (λhc=>?_) λhc=>?_⟩
  · have h0:0≤Q4 s 32:=of_decide_eq_true hc
    have h3:=hlt h0;have hl:(([32]:List UInt8).length:Int)=1:=rfl;refine ⟨⟨by omega,h0,by dsimp only;omega⟩,⟨by dsimp only;omega,by dsimp only;omega⟩,⟨by dsimp only;omega,by dsimp only;omega,Int.le_refl _⟩,?_⟩
    unfold cutF;rw [if_pos h0];dsimp only;rw [hl,show (Q4 s 32+1).toNat=(Q4 s 32).toNat+1 by omega,show ((s.length:Int)).toNat=s.length by omega,QK]
    rfl
  · unfold cutF
    rw [if_neg (of_decide_eq_false hc)]
theorem cut_vc (p:List UInt8×List UInt8) (h:cCut.pre p) :
    (p.1.length≤(1000000:Nat)∧p.2=[(32:UInt8)])∧cutF p.1=cutF p.1
     := by
  exact ⟨h,rfl⟩
set_option maxRecDepth 100000 in
theorem odd_holds:cOdd.Holds Tryz.prog:=by
 refine q0o (cons:=[]) Tryz.func71 (by kernel_rfl) (by kernel_rfl) mixed (by kernel_rfl) all_nil (λ_=>[]) λp hp=>?_
 refine cast ?_ (odd_vc p hp)
 kernel_rfl
theorem idx1_holds:cIdx1.Holds Tryz.prog:=by
 refine ⟨⟨⟨_,Tryz.func162,by kernel_rfl,by kernel_rfl⟩,λF' hF p r hr=>by injection hF with hF;subst hF;exact hr⟩,λp vs w S hS hp hvs=>?_⟩
 obtain ⟨s,sep⟩:=p;obtain rfl:sep=[32]:=hp;obtain ⟨v,v2,rfl,hv,hv2⟩:=two_args hvs;obtain rfl:v=.string (bs s):=hv;obtain rfl:v2=.string (bs [32]):=hv2;refine (Tryz.stringslite_Index_one (bs s) 32 w).mono ?_;rintro e w' ⟨rfl,rfl⟩;exact ⟨Q4 s 32,_,rfl,rfl,rfl,Qx _ _⟩
set_option maxRecDepth 100000 in
theorem cut1_holds:cCut1.Holds Tryz.prog:=by
 refine q0o (cons:=[cIdx1]) Tryz.func136 (by kernel_rfl) (by kernel_rfl) mixed (by kernel_rfl) (all_cons idx1_holds all_nil) (λ_=>[]) λp hp=>?_
 refine cast ?_ (cut1_vc p hp)
 kernel_rfl
set_option maxRecDepth 100000 in
theorem cut_holds:cCut.Holds Tryz.prog:=by
 refine q0o (cons:=[cCut1]) Tryz.func114 (by kernel_rfl) (by kernel_rfl) mixed (by kernel_rfl) (all_cons cut1_holds all_nil) (λ_=>[]) λp hp=>?_
 refine cast ?_ (cut_vc p hp)
 kernel_rfl
def fOdd:FCon:={ f:=70,args:=[q28],fa:=.fn 71,res:=[q13],pre:=λs _=>Q0 s≤1000000,F:=λs _=>List.any s λc=>!Snd.letB c }
theorem idx_odd (s:List UInt8):∀ (f pos:Nat),s.length-pos≤f→(decide (0≤QN (λx=>oddR (x:Int)) true (bs s) f pos))=(s.drop pos).any λc=>!Snd.letB c
 | 0,pos,h=>by
  rw [Qp (by omega)];rfl
 | f+1,pos,h=>by
  unfold QN;by_cases hp:pos<(bs s).size
  ·rw [if_pos hp]
   have hp':pos<s.length:=hp;obtain ⟨h1,h2,h3⟩:=rune_is s pos hp;have hd:s.drop pos=s.getD pos 0::s.drop (pos+1):=by
    rw [Qz hp',Qi,Qj hp'];rfl
   rw [hd,List.any_cons];cases hl:Snd.letB (s.getD pos 0)
   ·have h3:=h3 hl
    have ho:oddR ((Utf8.decode (bs s) pos).1:Int)=true:=by
     unfold oddR;simp only [Bool.or_eq_true,decide_eq_true_eq];omega
    rw [if_pos ho,decide_eq_true (Int.natCast_nonneg pos)];rfl
   ·obtain ⟨h4,h5,h6⟩:=h2 hl
    have ho:oddR (((s.getD pos 0).toNat:Int))=false:=by
     unfold oddR;simp only [Bool.or_eq_false_iff,decide_eq_false_iff_not];omega
    rw [h4];dsimp only;rw [ho,if_neg (by decide),idx_odd s f (pos+1) (by omega)];rfl
  ·rw [if_neg hp,Qp (by have:(bs s).size=s.length:=rfl;omega)];rfl
set_option maxRecDepth 100000 in
theorem odd_calls (W:World) (x:Nat):Calls Tryz.prog 71 (#[encR x]++#[]) W λe w'=>e=.returned (.bool (oddR (x:Int)))∧Below W.heap.size W w':=by
 have h:=odd_holds.2 (x:Int) [.int .i32 x] W (λ_=>False) (λ_ h=>h.elim) trivial ⟨rfl,λi c hc=>by
  match i,hc with
  | 0,hc=>injection hc with hc;subst hc;exact ⟨_,rfl,rfl⟩
  | i+1,hc=>cases hc⟩
 refine h.mono ?_;rintro e w' ⟨r,v,rfl,hr,hv,hb⟩;have hr:r=oddR (x:Int):=hr;have hv:v=.bool r:=hv;rw [hv,hr];exact ⟨rfl,hb⟩
set_option maxRecDepth 100000 in
theorem qkr:fOdd.Holds Tryz.prog:=by
 refine ⟨⟨_,Tryz.func70,by kernel_rfl,by kernel_rfl⟩,λp b vs fvs w S hS hpre hvs hfa=>?_⟩
 have hfa:fvs=[.func (.func 71) #[] #[]]:=hfa;subst hfa;obtain ⟨s,rfl⟩:∃ q:List UInt8,q=p:=⟨p,rfl⟩;obtain ⟨v,rfl,hv⟩:=q1e hvs;obtain rfl:v=.string (bs s):=hv;refine (Tryz.strings_ContainsFunc_grows 71 #[] (enters_of Tryz.func71 (by kernel_rfl) rfl) (λx=>oddR (x:Int)) (bs s) w (λW x _ _=>odd_calls W x)).mono ?_
 rintro e w' ⟨rfl,hb⟩;refine ⟨hb,_,rfl,?_⟩;have hi:=idx_odd s (bs s).size 0 (by show s.length-0≤s.length;omega)
 rw [List.drop_zero] at hi;show QG (decide (0≤Lib.idxFunc _ true (bs s)))=QG _;unfold Lib.idxFunc;rw [hi];rfl
end Go.Proofs.YtlfaaoalgcbcoaaGreatDoor
namespace Go.Proofs.YtlfaaoalgcbcoaaGreatDoor
namespace Hea
theorem qhg:∀ s:Str,cutW s≠[]
 | []=>by intro h;cases h
 | c::r=>by
  unfold cutW;split
  ·intro h;cases h
  ·split
   ·intro h;cases h
   ·intro h;cases h
theorem own_len (ws:List Str) (l:List Int):(ownW ws l).length=l.length:=by unfold ownW;rw [Qg]
theorem diff_same:∀ l:List Str,diff l l=[]
 | []=>rfl
 | x::r=>by rw [diff,if_pos (beq_self_eq_true x),diff_same r]
theorem diff_set:∀ {l:List Str} {i:Nat} {w:Str},i<l.length→w≠l.getD i []→diff l (l.set i w)=[(l.getD i [],w)]
 | [],i,w,h,_=>absurd h (QE _)
 | x::r,0,w,_,hne=>by
  have hne:w≠x:=hne;show diff (x::r) (w::r)=[(x,w)];rw [diff,if_neg (by rw [beq_iff_eq];exact λe=>hne e.symm),diff_same]
 | x::r,i+1,w,h,hne=>by
  have h:i<r.length:=by rw [Qk] at h;omega
  show diff (x::r) (x::r.set i w)=[(r.getD i [],w)];rw [diff,if_pos (beq_self_eq_true x),diff_set h hne]
theorem diff_nil:∀ {l m:List Str},l.length=m.length→diff l m=[]→l=m
 | [],[],_,_=>rfl
 | [],_::_,h,_=>by cases h
 | _::_,[],h,_=>by cases h
 | x::l,y::m,h,hd=>by
  rw [diff] at hd;split at hd
  ·rename_i hxy
   rw [eq_of_beq hxy,diff_nil (by simpa using h) hd]
  ·cases hd
theorem diff_one:∀ {l m:List Str} {p:Str×Str},l.length=m.length→diff l m=[p]→∃ i,i<l.length∧p.1=l.getD i []∧p.2≠p.1∧m=l.set i p.2
 | [],[],p,_,h=>by cases h
 | [],_::_,_,h,_=>by cases h
 | _::_,[],_,h,_=>by cases h
 | x::l,y::m,p,h,hd=>by
  have hl:l.length=m.length:=by simpa using h
  rw [diff] at hd;split at hd
  ·rename_i hxy
   obtain ⟨i,h1,h2,h3,h4⟩:=diff_one hl hd;refine ⟨i+1,by rw [Qk];omega,h2,h3,?_⟩
   rw [← eq_of_beq hxy,List.set_cons_succ,← h4]
  ·rename_i hxy
   injection hd with h1 h2;have:=diff_nil hl h2;subst h1 this;exact ⟨0,by rw [Qk];omega,rfl,λe=>hxy (by rw [show y=x from e];exact beq_self_eq_true x),rfl⟩
theorem proper_code {e:Cod.Ear} {book:List Cod.Giv} (h:e.proper book=true) {g:Cod.Giv} (hg:g∈book):e.ok=true∧Cod.q1l e.lang e.ws g.2.1=true:=by
 obtain ⟨h1,_,h3,_⟩:=Cod.q5v.1 h;have:=h3 g hg;unfold Cod.okG at this;simp only [Qa] at this;exact ⟨h1,this.2.2⟩
end Hea
namespace Hea
end Hea
open Go.RowKit R
namespace R
end R
def upL:Up:={ o:=19000,fr:=[(76,[5,8,10,12])],box:=[5,8,10],maps:=[] }
def cHear:Con:=.of 7 [ckWl,ckCf,q43,q28] [q28,q13,ckErr1] (λp=>q0w p.1∧q0n p.2.1∧q6g p.2.2.1∧Q0 p.2.2.2≤1000) (λp=>Hea.q1f ⟨p.1.1,p.1.2,p.2.1⟩ p.2.2.1 p.2.2.2)
noncomputable def inlHe:List (Nat×Func):=[(27,Tryz.f27),(67,Tryz.f67),(69,Tryz.f69),(113,Tryz.f113),
 (28,Tryz.f28),(77,Tryz.f77),(72,Tryz.f72),(73,Tryz.f73),(74,Tryz.f74),
 (76,Tryz.f76),(118,Tryz.f118)]
noncomputable def kitHe:Kit:={ cons:=[qek,cAlike,cCut,cEqS.lent],ns:=[nCloneS],os:=[qjt],fcs:=[fOdd],inls:=inlHe }
def q4d (l:List (List UInt8)):Row:=⟨9,kS,l⟩
def R.Get.rowS (r:Nat) (st:St):List (List UInt8):=match st.row r with
 | some y=>match y.fs.deq kS with
  | some ⟨h⟩=>q3o h y.xs
  | none=>[]
 | none=>[]
structure Hf where
 L:Nat
 F:Nat
 upL:List (Nat×List Nat)
 upF:List (Nat×List Nat)
 boxL:List Nat
def Hf.wr (h:Hf):Nat:=(h.L+1)*1000+742
def Hf.dr (h:Hf):Nat:=h.F+60
def Hf.or_ (h:Hf):Nat:=h.F+43
def Hf.sBox (h:Hf):List Nat:=[h.L+11,h.L+2,h.F+4]
def R.keepRows (l:List Nat) (st:St):List (Nat×Row):=l.map λr=>(r,q4d (Get.rowS r st))
def q4h (text:List UInt8) (more:Bool) (rest:List UInt8) (w:List (List UInt8)):Prop :=
 Hea.cutW text=(if more then w++Hea.cutW rest else w)∧w.all Hea.q5e=true∧w.length≤5∧rest.length≤text.length
def anWords (h:Hf) (text:List UInt8):List (Nat×Ann) :=
 [annX 0 (Bool×List UInt8×List (List UInt8))
  (λst p=>st.hd { live:=[0,1],sav:=savK 0 ((46,[4,5,6])::h.upL),box:=[h.L+2,h.L+4,h.L+5,h.L+6]++h.boxL,lp:=[4,5,6] } [(3,bool p.1)]
   [((h.L+14)*1000+1,[.val .str p.2.1]),(h.L+11,[.own h.wr,.clo 67 0 [(h.L+2,0)]])] [(h.wr,q4d p.2.2)] [] none)
  (λ_ p=>q4h text p.1 p.2.1 p.2.2)
  (λ_ p=>if p.1 then p.2.1.length+1 else 0)]
def anListen:List (Nat×Ann):=[q65 7]
def anFindH (h:Hf) (bk:List (Nat×Row)) (e:Cod.Ear) (book:q0e):List (Nat×Ann) :=
  [annX 0 (Nat×List (List UInt8))
    (λst p=>st.hd { live:=[0,4,10,23],sav:=savK 0 h.upF,box:=h.sBox } [(25,R.int .i64 p.1),(9,ownAV h.dr),(24,R.int .i64 book.length)] [] ([(h.wr,q4d (Get.rowS h.wr st)),(h.dr,q4d p.2)]++bk) [] none)
    (λst p=>p.1≤book.length∧p.2.length≤p.1∧Hea.q0l (Hea.q07 e) e.ws (Get.rowS h.wr st) book []=Hea.q0l (Hea.q07 e) e.ws (Get.rowS h.wr st) (book.drop p.1) p.2)
    (λ_ p=>book.length-p.1),
   annX 2 (Nat×List (List UInt8))
    (λst p=>st.hd { live:=[0,4,9,10,12,13,23,24,25,30,31],sav:=savK 0 h.upF,box:=h.sBox++[h.F+12] } [(32,R.int .i64 p.1)] [(h.F+13,[.own h.or_])] ((h.or_,q4d p.2)::(keepRows [h.wr,h.dr] st++bk)) [] none)
    (λst p=>p.1≤(Get.slOf (.one (.int .i64)) 30 st).length∧p.2=Hea.ownW e.ws ((Get.slOf (.one (.int .i64)) 30 st).take p.1))
    (λst p=>(Get.slOf (.one (.int .i64)) 30 st).length-p.1),
   q65 10,q65 12]
def Hf.sav (h:Hf) (ahead:List (Nat×List Nat)):List Nat:=savK 0 (ahead++[(9,[]),(71,[0,4,9,10,12,23,24,25])]++h.upF)
def Hf.rows (h:Hf) (bk:List (Nat×Row)) (st:St):List (Nat×Row):=keepRows [h.wr,h.dr,h.or_] st++bk
def anIndexH (h:Hf) (bk:List (Nat×Row)) (e:Cod.Ear):List (Nat×Ann) :=
 [annX 0 Nat
  (λst p=>st.hd { live:=[0,1,7],sav:=h.sav [],box:=h.sBox++[h.F+12,h.F+13] } [(8,R.int .i64 p)] [] (h.rows bk st) [] none)
  (λst p=>p≤3∧(1≤p→Hea.q3r (Hea.q07 e) (Get.rowS h.or_ st) (Get.rowS h.wr st)=false)∧(2≤p→Hea.q46 (Get.rowS h.or_ st) (Get.rowS h.wr st)=false)∧(3≤p→Hea.q47 (Get.rowS h.or_ st) (Get.rowS h.wr st)=false))
  (λ_ p=>3-p)]
def Hf.savW (h:Hf):List Nat:=h.sav [(7,[]),(19,[0,1,5,7,8])]
def Hf.boxW (h:Hf):List Nat:=h.sBox++[h.F+12,h.F+13]
def anReplH (h:Hf) (bk:List (Nat×Row)) (e:Cod.Ear):List (Nat×Ann) :=
  [annX 0 (Nat×Nat)
    (λst p=>st.hd { live:=[0,1,19,20],sav:=h.savW,box:=h.boxW } [(21,R.int .i64 p.1),(5,R.int .i64 p.2)] [] (h.rows bk st) [] none)
    (λst p=>p.1≤(Get.rowS h.wr st).length∧p.2=(Hea.diff ((Get.rowS h.or_ st).take p.1) ((Get.rowS h.wr st).take p.1)).length∧(Hea.diff ((Get.rowS h.or_ st).take p.1) ((Get.rowS h.wr st).take p.1)).all (λq=>Hea.q07 e q.1 q.2)=true)
    (λst p=>(Get.rowS h.wr st).length-p.1),
   q65 9]
def anMissH (h:Hf) (bk:List (Nat×Row)):List (Nat×Ann) :=
  [annX 0 Nat
    (λst p=>st.hd { live:=[0,1,7],sav:=h.savW,box:=h.boxW } [(8,R.int .i64 p)] [] (h.rows bk st) [] none)
    (λst p=>p≤(Get.rowS h.or_ st).length∧∀ i,i<p→((Get.rowS h.or_ st).eraseIdx i==Get.rowS h.wr st)=false)
    (λst p=>(Get.rowS h.or_ st).length-p),
   q65 4]
def anExchH (h:Hf) (bk:List (Nat×Row)):List (Nat×Ann) :=
  [annX 0 Nat
    (λst p=>st.hd { live:=[0,1,9],sav:=h.savW,box:=h.boxW } [(10,R.int .i64 p)] [] (h.rows bk st) [] none)
    (λst p=>p≤(Get.rowS h.or_ st).length-1∧∀ i,i<p→(Hea.q1c (Get.rowS h.or_ st) i==Get.rowS h.wr st&&(Get.rowS h.or_ st).getD i [] != (Get.rowS h.or_ st).getD (i+1) [])=false)
    (λst p=>(Get.rowS h.or_ st).length-1-p),
   annX 2000006 Unit
    (λst _=>st.hd { live:=[0,1,5,6,9,10],sav:=h.savW,box:=h.boxW } [] [] (((st.off+15)*1000,q4d (Hea.q1c (Get.rowS h.or_ st) (st.intOf 5).toNat))::h.rows bk st) [] none)
    (λ_ _=>True)
    (λ_ _=>0),
   q65 6]
def anHe (h:Hf) (bk:List (Nat×Row)) (e:Cod.Ear) (book:q0e) (text:List UInt8):Nat→List (Nat×Ann):=λf =>
 bif QC f 113 then anWords h text
 else bif QC f 27 then anListen
 else bif QC f 28 then anFindH h bk e book
 else bif QC f 118 then anIndexH h bk e
 else bif QC f 72 then anReplH h bk e
 else bif QC f 73 then anMissH h bk
 else bif QC f 74 then anExchH h bk
 else []
def hfHear:Hf:={ L:=22000,F:=30000,upL:=[(33,[2,4])],upF:=[],boxL:=[4] }
namespace Hea
theorem diff_snoc:∀ {a b:List Str} (x y:Str),a.length=b.length→diff (a++[x]) (b++[y])=diff a b++(if x==y then [] else [(x,y)])
 | [],[],x,y,_=>by
  show diff [x] [y]=_;rw [diff];split <;> rfl
 | [],_::_,_,_,h=>by cases h
 | _::_,[],_,_,h=>by cases h
 | u::a,v::b,x,y,h=>by
  rw [QL,QL,diff,diff,diff_snoc x y (by simpa using h)]
  split
  ·rfl
  ·rfl
theorem diff_step {own words:List Str} {k:Nat} (h1:k<own.length) (h2:k<words.length):diff (own.take (k+1)) (words.take (k+1))=diff (own.take k) (words.take k)++(if own.getD k []==words.getD k [] then [] else [(own.getD k [],words.getD k [])]):=by
 rw [Snd.q0q own [] k h1,Snd.q0q words [] k h2,diff_snoc _ _ (by rw [Qd,Qd];omega)]
theorem diff_mem {a b:List Str} {p:Str×Str}:∀ {k:Nat},p∈diff (a.take k) (b.take k)→p∈diff a b:=by
 intro k
 induction a generalizing b k with
 | nil=>intro h;rw [List.take_nil] at h;exact h
 | cons x a ih =>
  cases b with
  | nil=>intro h;rw [List.take_nil] at h;cases k <;> cases h
  | cons y b =>
   cases k with
   | zero=>intro h;cases h
   | succ k =>
    intro h;rw [Qr,Qr,diff] at h;rw [diff];split
    ·rename_i hxy
     rw [if_pos hxy] at h;exact ih h
    ·rename_i hxy
     rw [if_neg hxy] at h;rcases List.mem_cons.1 h with rfl | h
     ·exact List.mem_cons_self
     ·exact List.mem_cons_of_mem _ (ih h)
theorem diff_at {own words:List Str} {k:Nat} (h1:k<own.length) (h2:k<words.length) (hne:(words.getD k []==own.getD k [])=false):(own.getD k [],words.getD k [])∈diff own words:=by
 refine diff_mem (k:=k+1) ?_;rw [diff_step h1 h2];refine List.mem_append_right _ ?_;have:(own.getD k []==words.getD k [])=false:=by
  rw [beq_eq_false_iff_ne] at hne ⊢;exact λe=>hne e.symm
 rw [this];exact List.mem_singleton.2 rfl
theorem repl_part (e:Cod.Ear) (own words:List Str) {Y N:Prop} (hc:q0n e.c) (ho:∀ s∈own,s.length≤1000000) (hs:∀ s∈words,s.length≤1000000) (hw:words.length≤1000000) (hY:q3r (q07 e) own words=true→Y) (hN:q3r (q07 e) own words=false→N) :
  bif (own.length:Int) != (words.length:Int) then N else
   (∃ p':Nat×Nat,(p'.1≤words.length∧p'.2=(diff (own.take p'.1) (words.take p'.1)).length∧((diff (own.take p'.1) (words.take p'.1)).all λq:Str×Str=>q07 e q.1 q.2)=true)∧(0:Int)=(p'.1:Int)∧(0:Int)=(p'.2:Int)) ∧
   ∀ p4:Nat×Nat,p4.1≤words.length∧p4.2=(diff (own.take p4.1) (words.take p4.1)).length∧((diff (own.take p4.1) (words.take p4.1)).all λq:Str×Str=>q07 e q.1 q.2)=true →
    bif decide ((p4.1:Int)<(words.length:Int)) then
     ((0:Int)≤(p4.1:Int)∧(p4.1:Int)<(words.length:Int))∧((0:Int)≤(p4.1:Int)∧(p4.1:Int)<(own.length:Int)) ∧
     bif !(words.getD (p4.1:Int).toNat []==own.getD (p4.1:Int).toNat []) then
      ((-9223372036854775808:Int)≤(p4.2:Int)+1∧(p4.2:Int)+1≤(9223372036854775807:Int))∧((0:Int)≤(p4.1:Int)∧(p4.1:Int)<(own.length:Int)) ∧
      (q0n e.c∧(own.getD (p4.1:Int).toNat []).length≤(1000000:Nat)∧(words.getD (p4.1:Int).toNat []).length≤(1000000:Nat)) ∧
      bif !(Snd.q0m e.c (own.getD (p4.1:Int).toNat []) (words.getD (p4.1:Int).toNat [])) then N else
       ((-9223372036854775808:Int)≤(p4.1:Int)+1∧(p4.1:Int)+1≤(9223372036854775807:Int))∧∃ p':Nat×Nat,(p'.1≤words.length∧p'.2=(diff (own.take p'.1) (words.take p'.1)).length∧((diff (own.take p'.1) (words.take p'.1)).all λq:Str×Str=>q07 e q.1 q.2)=true) ∧
        words.length-p'.1<words.length-p4.1∧(p4.1:Int)+1=(p'.1:Int)∧(p4.2:Int)+1=(p'.2:Int)
     else
      ((-9223372036854775808:Int)≤(p4.1:Int)+1∧(p4.1:Int)+1≤(9223372036854775807:Int))∧∃ p':Nat×Nat,(p'.1≤words.length∧p'.2=(diff (own.take p'.1) (words.take p'.1)).length∧((diff (own.take p'.1) (words.take p'.1)).all λq:Str×Str=>q07 e q.1 q.2)=true) ∧
       words.length-p'.1<words.length-p4.1∧(p4.1:Int)+1=(p'.1:Int)∧(p4.2:Int)=(p'.2:Int)
    else bif (p4.2:Int)==(1:Int) then Y else N:=by
 refine bifP (λhb=>hN ?_) λhb=>?_
 ·unfold q3r
  have:(own.length==words.length)=false:=by
   rw [beq_eq_false_iff_ne];rw [bne_iff_ne] at hb;omega
  rw [this,QQ]
 have hl:own.length=words.length:=by
  have:((own.length:Int)==(words.length:Int))=true:=by
   unfold bne at hb;simpa using hb
  have:=eq_of_beq this;omega
 refine ⟨⟨(0,0),⟨Qe _,rfl,rfl⟩,rfl,rfl⟩,?_⟩;rintro ⟨k,n⟩ ⟨hk,hn,ha⟩;have hk:k≤words.length:=hk;have hn:n=(diff (own.take k) (words.take k)).length:=hn;have hti:((k:Int).toNat)=k:=rfl;dsimp only;rw [hti];refine bifP (λhb=>?_) λhb=>?_
 ·have hkw:k<words.length:=by have:=of_decide_eq_true hb;omega
  have hko:k<own.length:=by omega
  have hst:=diff_step hko hkw;refine ⟨⟨by omega,by omega⟩,⟨by omega,by omega⟩,bifP (λhb=>?_) λhb=>?_⟩
  ·have hne:(words.getD k []==own.getD k [])=false:=by simpa using hb
   have hne2:(own.getD k []==words.getD k [])=false:=by
    rw [beq_eq_false_iff_ne] at hne ⊢;exact λe=>hne e.symm
   have hnk:n≤k:=by
    have h1:∀ (a b:List Str),(diff a b).length≤a.length:=by
     intro a
     induction a with
     | nil=>intro b;exact Qe _
     | cons x a ih =>
      intro b;cases b with
      | nil=>exact Qe _
      | cons y b =>
       rw [diff];have:=ih b;split <;> simp only [Qk] <;> omega
    have h2:=h1 (own.take k) (words.take k);rw [Qd] at h2;omega
   refine ⟨⟨by omega,by omega⟩,⟨by omega,by omega⟩,⟨hc,ho _ (Snd.q1p own [] k hko),hs _ (Snd.q1p words [] k hkw)⟩,bifP (λhb=>hN ?_) λhb=>⟨⟨by omega,by omega⟩,(k+1,n+1),⟨hkw,?_,?_⟩,?_,by push_cast;rfl,by push_cast;rfl⟩⟩
   ·have hna:Snd.q0m e.c (own.getD k []) (words.getD k [])=false:=by simpa using hb
    unfold q3r;have:(diff own words).all (λp=>q07 e p.1 p.2)=false:=by
     rw [List.all_eq_false];exact ⟨_,diff_at hko hkw hne,by show ¬ Snd.q0m e.c (own.getD k []) (words.getD k [])=true;rw [hna];decide⟩
    rw [this,QQ,Bool.and_false]
   ·show n+1=_
    rw [hst,hne2,hn,Q9];rfl
   ·rw [hst,hne2,Qq,ha]
    show (true&&(q07 e (own.getD k []) (words.getD k [])&&true))=true;have:Snd.q0m e.c (own.getD k []) (words.getD k [])=true:=by simpa using hb
    show (true&&(Snd.q0m e.c (own.getD k []) (words.getD k [])&&true))=true;rw [this];rfl
   ·show words.length-(k+1)<words.length-k;omega
  ·have heq:(words.getD k []==own.getD k [])=true:=by simpa using hb
   have heq2:(own.getD k []==words.getD k [])=true:=by rw [beq_iff_eq] at heq ⊢;exact heq.symm
   refine ⟨⟨by omega,by omega⟩,(k+1,n),⟨hkw,?_,?_⟩,?_,by push_cast;rfl,rfl⟩
   ·show n=_
    rw [hst,heq2,hn,if_pos rfl,QO]
   ·rw [hst,heq2,if_pos rfl,QO];exact ha
   ·show words.length-(k+1)<words.length-k;omega
 ·have hle:words.length≤k:=by have:=of_decide_eq_false hb;omega
  rw [Qb (show own.length≤k by omega),Qb hle] at hn ha
  have hv:q3r (q07 e) own words=(n==1):=by
   unfold q3r;rw [hl,beq_self_eq_true,Qu,hn];show ((diff own words).all (λp=>q07 e p.1 p.2)&&_)=_
   rw [show (diff own words).all (λp=>q07 e p.1 p.2)=true from ha,Qu]
  refine bifP (λhb=>hY ?_) λhb=>hN ?_
  ·rw [hv];have:=eq_of_beq hb;rw [beq_iff_eq];omega
  ·rw [hv];rw [beq_eq_false_iff_ne] at hb ⊢;omega
theorem miss_part (own words:List Str) {Y N:Prop} (hl:own.length≤1000000) (hw:words.length≤1000000) (hY:q46 own words=true→Y) (hN:q46 own words=false→N) :
  (∃ p':Nat,(p'≤own.length∧∀ i:Nat,i<p'→(own.eraseIdx i==words)=false)∧(0:Int)=(p':Int)) ∧
  ∀ p4:Nat,(p4≤own.length∧∀ i:Nat,i<p4→(own.eraseIdx i==words)=false) →
   bif decide ((p4:Int)<(own.length:Int)) then
    ((-9223372036854775808:Int)≤(p4:Int)+1∧(p4:Int)+1≤(9223372036854775807:Int))∧(own.length≤(1000000:Nat)∧(((0:Int)≤(p4:Int)∧(p4:Int)<(own.length:Int))∧((own.eraseIdx (p4:Int).toNat).length≤(1000000:Nat)∧words.length≤(1000000:Nat)) ∧
     bif own.eraseIdx (p4:Int).toNat==words then Y else
      ((-9223372036854775808:Int)≤(p4:Int)+1∧(p4:Int)+1≤(9223372036854775807:Int))∧∃ p':Nat,(p'≤own.length∧∀ i:Nat,i<p'→(own.eraseIdx i==words)=false)∧own.length-p'<own.length-p4∧(p4:Int)+1=(p':Int)) ∧
     ((0:Int)≤(p4:Int)∧(p4:Int)<(own.length:Int))∧((own.eraseIdx (p4:Int).toNat).length≤(1000000:Nat)∧words.length≤(1000000:Nat)) ∧
     bif own.eraseIdx (p4:Int).toNat==words then Y else
      ((-9223372036854775808:Int)≤(p4:Int)+1∧(p4:Int)+1≤(9223372036854775807:Int))∧∃ p':Nat,(p'≤own.length∧∀ i:Nat,i<p'→(own.eraseIdx i==words)=false)∧own.length-p'<own.length-p4∧(p4:Int)+1=(p':Int)) ∧
    own.length≤(1000000:Nat)∧((0:Int)≤(p4:Int)∧(p4:Int)<(own.length:Int))∧((own.eraseIdx (p4:Int).toNat).length≤(1000000:Nat)∧words.length≤(1000000:Nat)) ∧
     bif own.eraseIdx (p4:Int).toNat==words then Y else
      ((-9223372036854775808:Int)≤(p4:Int)+1∧(p4:Int)+1≤(9223372036854775807:Int))∧∃ p':Nat,(p'≤own.length∧∀ i:Nat,i<p'→(own.eraseIdx i==words)=false)∧own.length-p'<own.length-p4∧(p4:Int)+1=(p':Int)
   else N:=by
 refine ⟨⟨0,⟨Qe _,λi h=>absurd h (QE _)⟩,rfl⟩,?_⟩
 rintro k ⟨hk,hno⟩;have hti:((k:Int).toNat)=k:=rfl;rw [hti];refine bifP (λhb=>?_) λhb=>hN ?_
 ·have hlt:k<own.length:=by have:=of_decide_eq_true hb;omega
  have he:(own.eraseIdx k).length≤1000000:=by rw [Qt hlt];omega
  have hg:bif own.eraseIdx k==words then Y else
    ((-9223372036854775808:Int)≤(k:Int)+1∧(k:Int)+1≤(9223372036854775807:Int))∧∃ p':Nat,(p'≤own.length∧∀ i:Nat,i<p'→(own.eraseIdx i==words)=false)∧own.length-p'<own.length-k∧(k:Int)+1=(p':Int):=by
   refine bifP (λhb=>hY ?_) λhb=>⟨⟨by omega,by omega⟩,k+1,⟨hlt,λi hi=>?_⟩,by omega,by push_cast;rfl⟩
   ·unfold q46
    exact QD.2 ⟨k,Qs.2 hlt,hb⟩
   ·by_cases h:i=k
    ·rw [h];exact hb
    ·exact hno i (by omega)
  exact ⟨⟨by omega,by omega⟩,⟨hl,⟨⟨by omega,by omega⟩,⟨he,hw⟩,hg⟩,⟨by omega,by omega⟩,⟨he,hw⟩,hg⟩,hl,⟨by omega,by omega⟩,⟨he,hw⟩,hg⟩
 ·have hle:own.length≤k:=by have:=of_decide_eq_false hb;omega
  unfold q46;rw [Qv];intro i hi;rw [hno i (by have:=Qs.1 hi;omega)]
  decide
theorem swap_len_ (own:List Str) (i:Nat):(q1c own i).length=own.length:=by unfold q1c;rw [QF,QF]
theorem exch_part (own words:List Str) {Y N:Prop} (hl:own.length≤1000000) (hw:words.length≤1000000) (hY:q47 own words=true→Y) (hN:q47 own words=false→N) :
  ((-9223372036854775808:Int)≤(own.length:Int)-1∧(own.length:Int)-1≤(9223372036854775807:Int)) ∧
  (∃ p':Nat,(p'≤own.length-1∧∀ i:Nat,i<p'→(q1c own i==words&&own.getD i [] != own.getD (i+1) [])=false)∧(0:Int)=(p':Int)) ∧
  ∀ p4:Nat,(p4≤own.length-1∧∀ i:Nat,i<p4→(q1c own i==words&&own.getD i [] != own.getD (i+1) [])=false) →
   bif decide ((p4:Int)<(own.length:Int)-1) then
    own.length≤(1000000:Nat) ∧
    (((-9223372036854775808:Int)≤(p4:Int)+1∧(p4:Int)+1≤(9223372036854775807:Int))∧((0:Int)≤(p4:Int)+1∧(p4:Int)+1<(own.length:Int))∧((0:Int)≤(p4:Int)∧(p4:Int)<(own.length:Int))∧((0:Int)≤(p4:Int)∧(p4:Int)<(own.length:Int)) ∧
     ((-9223372036854775808:Int)≤(p4:Int)+1∧(p4:Int)+1≤(9223372036854775807:Int)) ∧
     bif (p4:Int).toNat.beq (p4:Int).toNat then
      ((0:Int)≤(p4:Int)+1∧(p4:Int)+1<((own.set (p4:Int).toNat (own.getD ((p4:Int)+1).toNat [])).length:Int)) ∧
      bif ((p4:Int)+1).toNat.beq ((p4:Int)+1).toNat then
       ∃ p':Unit,(own.set (p4:Int).toNat (own.getD ((p4:Int)+1).toNat [])).set ((p4:Int)+1).toNat (own.getD (p4:Int).toNat [])=q1c own (p4:Int).toNat
      else False
     else False) ∧
    ∀ p5:Unit,True →
     ((q1c own (p4:Int).toNat).length≤(1000000:Nat)∧words.length≤(1000000:Nat)) ∧
     bif q1c own (p4:Int).toNat==words then
      ((0:Int)≤(p4:Int)∧(p4:Int)<(own.length:Int))∧((-9223372036854775808:Int)≤(p4:Int)+1∧(p4:Int)+1≤(9223372036854775807:Int))∧((0:Int)≤(p4:Int)+1∧(p4:Int)+1<(own.length:Int)) ∧
      bif !(own.getD (p4:Int).toNat []==own.getD ((p4:Int)+1).toNat []) then Y else
       ((-9223372036854775808:Int)≤(p4:Int)+1∧(p4:Int)+1≤(9223372036854775807:Int))∧∃ p':Nat,(p'≤own.length-1∧∀ i:Nat,i<p'→(q1c own i==words&&own.getD i [] != own.getD (i+1) [])=false)∧own.length-1-p'<own.length-1-p4∧(p4:Int)+1=(p':Int)
     else
      ((-9223372036854775808:Int)≤(p4:Int)+1∧(p4:Int)+1≤(9223372036854775807:Int))∧∃ p':Nat,(p'≤own.length-1∧∀ i:Nat,i<p'→(q1c own i==words&&own.getD i [] != own.getD (i+1) [])=false)∧own.length-1-p'<own.length-1-p4∧(p4:Int)+1=(p':Int)
   else N:=by
 refine ⟨⟨by omega,by omega⟩,⟨0,⟨Qe _,λi h=>absurd h (QE _)⟩,rfl⟩,?_⟩
 rintro k ⟨hk,hno⟩;have hti:((k:Int).toNat)=k:=rfl;have hti1:(((k:Int)+1).toNat)=k+1:=by omega
 rw [hti,hti1];refine bifP (λhb=>?_) λhb=>hN ?_
 ·have hlt:k+1<own.length:=by have:=of_decide_eq_true hb;omega
  have hnext:(q1c own k==words&&own.getD k [] != own.getD (k+1) [])=false→((-9223372036854775808:Int)≤(k:Int)+1∧(k:Int)+1≤(9223372036854775807:Int))∧∃ p':Nat,(p'≤own.length-1∧∀ i:Nat,i<p'→(q1c own i==words&&own.getD i [] != own.getD (i+1) [])=false)∧own.length-1-p'<own.length-1-k∧(k:Int)+1=(p':Int):=λhf=>by
   refine ⟨⟨by omega,by omega⟩,k+1,⟨by omega,λi hi=>?_⟩,by omega,by push_cast;rfl⟩
   by_cases h:i=k
   ·rw [h];exact hf
   ·exact hno i (by omega)
  have hbq:∀ n:Nat,n.beq n=true:=λn=>Nat.beq_refl n
  refine ⟨hl,⟨⟨by omega,by omega⟩,⟨by omega,by omega⟩,⟨by omega,by omega⟩,⟨by omega,by omega⟩,⟨by omega,by omega⟩,?_⟩,λ_ _=>⟨⟨by rw [swap_len_];exact hl,hw⟩,bifP (λhb=>?_) λhb=>hnext (by rw [hb];rfl)⟩⟩
  ·rw [hbq,cond_true,hbq,cond_true,QF]
   exact ⟨⟨by omega,by omega⟩,(),rfl⟩
  ·refine ⟨⟨by omega,by omega⟩,⟨by omega,by omega⟩,⟨by omega,by omega⟩,bifP (λhb2=>hY ?_) λhb2=>hnext ?_⟩
   ·unfold q47
    exact QD.2 ⟨k,Qs.2 (by omega),by rw [hb,Qu];exact hb2⟩
   ·rw [hb,Qu];exact hb2
 ·have hle:own.length≤k+1:=by have:=of_decide_eq_false hb;omega
  unfold q47;rw [Qv];intro i hi;rw [hno i (by have:=Qs.1 hi;omega)]
  decide
theorem cut_eq:∀ s:Str,cutW s=if 0≤Q4 s 32 then (cutF s).1::cutW (cutF s).2.1 else [s]
 | []=>rfl
 | c::r=>by
  have ih:=cut_eq r;have hge:=Lib.indexByte_ge r 32;by_cases hc:(c==32)=true
  ·have hi:Q4 (c::r) 32=0:=by unfold Q4;rw [if_pos hc]
   have hf:cutF (c::r)=([],r,true):=by unfold cutF;rw [hi];rfl
   rw [cutW,if_pos hc,hi,if_pos (Int.le_refl 0),hf]
  ·have hi:Q4 (c::r) 32=if Q4 r 32==-1 then -1 else Q4 r 32+1:=by
    conv=>lhs;unfold Q4
    rw [if_neg hc]
   rw [cutW,if_neg hc,ih];by_cases h0:0≤Q4 r 32
   ·have hb:(Q4 r 32==-1)=false:=by rw [beq_eq_false_iff_ne];omega
    rw [hb,if_neg (by decide)] at hi
    rw [if_pos h0,hi,if_pos (by omega)]
    obtain ⟨n,hn⟩:=Ql h0;unfold cutF;rw [hi,if_pos h0,if_pos (by omega),hn]
    dsimp only;rw [show ((n:Int)+1).toNat=n+1 by omega,show ((n:Int)).toNat=n by omega,Qr,List.drop_succ_cons]
   ·have hm:Q4 r 32=-1:=by omega
    rw [hm] at hi;rw [if_neg h0,hi];rfl
theorem lis_step {text rest:Str} {w:List Str} (h:q4h text true rest w) (h1:q5e (cutF rest).1=true) (h5:w.length<5):q4h text (cutF rest).2.2 (cutF rest).2.1 (w++[(cutF rest).1]):=by
 obtain ⟨hc,ha,hl,hr⟩:=h;rw [if_pos rfl,cut_eq rest] at hc;refine ⟨?_,by rw [Qq,ha,QH,h1];rfl,by rw [Q9,Qh];omega,?_⟩
 ·by_cases h0:0≤Q4 rest 32
  ·rw [if_pos h0] at hc
   rw [show (cutF rest).2.2=true by unfold cutF;rw [if_pos h0],if_pos rfl,hc,List.append_assoc];rfl
  ·rw [if_neg h0] at hc
   rw [show (cutF rest).2.2=false by unfold cutF;rw [if_neg h0],if_neg (by decide),hc,show (cutF rest).1=rest by unfold cutF;rw [if_neg h0]]
 ·refine Nat.le_trans ?_ hr
  unfold cutF;split
  ·dsimp only;rw [Qn];omega
  ·exact Qe _
theorem lis_less {rest:Str}:(if (cutF rest).2.2=true then (cutF rest).2.1.length+1 else 0)<rest.length+1:=by
 unfold cutF;by_cases h0:0≤Q4 rest 32
 ·rw [if_pos h0]
  dsimp only;rw [if_pos rfl,Qn];obtain ⟨n,hn⟩:=Ql h0;have h3:=(QI hn).1;have h4:n<rest.length:=(Qy.1 h3).1;omega
 ·rw [if_neg h0]
  dsimp only;rw [if_neg (by decide)];omega
theorem lis_bad {text rest:Str} {w:List Str} (h:q4h text true rest w) (h1:q5e (cutF rest).1=false∨w.length=5):q5b text=none:=by
 obtain ⟨hc,ha,hl,hr⟩:=h;rw [if_pos rfl,cut_eq rest] at hc;unfold q5b;rw [if_neg];rw [Qa,decide_eq_true_eq];rintro ⟨q1,q2⟩;by_cases h0:0≤Q4 rest 32
 ·rw [if_pos h0] at hc
  rw [hc] at q1 q2;rw [Qq,QH,Qa,Qa] at q1;rw [Q9,Qk] at q2;rcases h1 with h1 | h1
  ·rw [h1] at q1;exact absurd q1.2.1 (by decide)
  ·omega
 ·rw [if_neg h0] at hc
  have hf:(cutF rest).1=rest:=by unfold cutF;rw [if_neg h0]
  rw [hc] at q1 q2;rw [Qq,QH,Qa,Qa] at q1;rw [Q9,Qk] at q2;rcases h1 with h1 | h1
  ·rw [hf] at h1;rw [h1] at q1;exact absurd q1.2.1 (by decide)
  ·omega
theorem lis_end {text rest:Str} {w:List Str} (h:q4h text false rest w):q5b text=some w:=by
 obtain ⟨hc,ha,hl,hr⟩:=h;rw [if_neg (by decide)] at hc
 unfold q5b;rw [hc,ha,decide_eq_true hl];rfl
theorem word_of {s:Str} (h1:(s.any λc=>!Snd.letB c)=false) (h2:(s==[])=false) (h3:¬ (12:Int)<(s.length:Int)):q5e s=true:=by
 unfold q5e;simp only [Qa,decide_eq_true_eq,Qw,QA];refine ⟨by rw [beq_eq_false_iff_ne] at h2;exact h2,by omega,?_⟩
 rw [QM];intro c hc;rw [Qv] at h1;have:=h1 c hc;unfold Snd.letB at this
 simpa using this
theorem q9o {s:Str} (h:(s.any λc=>!Snd.letB c)=true∨(s==[])=true∨(12:Int)<(s.length:Int)):q5e s=false:=by
 rw [← Bool.not_eq_true];unfold q5e;simp only [Qa,decide_eq_true_eq,Qw,QA];rintro ⟨h1,h2,h3⟩;rcases h with h | h | h
 ·obtain ⟨c,hc,hn⟩:=QD.1 h
  rw [QM] at h3;have:=h3 c hc;unfold Snd.letB at hn;rw [Qw,Bool.and_eq_false_iff,decide_eq_false_iff_not,decide_eq_false_iff_not] at hn;simp only [Qa,decide_eq_true_eq] at this;omega
 ·exact h1 (eq_of_beq h)
 ·omega
end Hea
theorem ownH_snoc (ws:List (List UInt8)) (code:List Int) (k:Nat) (hk:k<code.length):Hea.ownW ws (code.take k)++[ws.getD (code.getD k 0).toNat []]=Hea.ownW ws (code.take (k+1)):=by
 rw [Snd.q0q code 0 k hk];unfold Hea.ownW;rw [List.map_append];rfl
theorem ownH_long (ws:List (List UInt8)) (h:∀ s∈ws,s.length≤1000000) (code:List Int):∀ s∈Hea.ownW ws code,s.length≤1000000:=by
 intro s hs;obtain ⟨i,_,rfl⟩:=List.mem_map.1 hs;by_cases hi:i.toNat<ws.length
 ·exact h _ (Snd.q1p ws [] _ hi)
 ·rw [Qi,List.getElem?_eq_none (by omega)];exact Qe _
set_option maxRecDepth 100000 in
theorem qkd (e:Cod.Ear) (book:q0e) (w:List (List UInt8)) (R:List UInt8×Bool×Int) (m:Nat) (hm:m=3) (hp:e.proper book=true) (hC:q0n e.c) (hW:∀ s∈e.ws,s.length≤1000000) (hw:w.length≤5) (hwl:∀ s∈w,s.length≤1000000) (hB:book.length≤1000000) (hR:R=Hea.q0l (Hea.q07 e) e.ws w book []) :
  (∃ (p':Nat×List (List UInt8)),(p'.1≤Q0 book∧p'.2.length≤p'.1∧Hea.q0l (Hea.q07 e) e.ws w book []=Hea.q0l (Hea.q07 e) e.ws w (Qf p'.1 book) p'.2)∧(0
  : Int)=(p'.1:Int)∧p'.2=[])∧∀ (p_1:Nat×List (List UInt8)),p_1.1≤Q0 book∧p_1.2.length≤p_1.1∧Hea.q0l (Hea.q07 e) e.ws w book []=Hea.q0l (Hea.q07 e)
  e.ws w (Qf p_1.1 book) p_1.2→bif decide ((p_1.1:Int)<(↑(Q0 book):Int)) then ((0:Int)≤(p_1.1:Int)∧(p_1.1:Int)<(↑(Q0 book):Int))∧(∃ (p' :
  Nat×List (List UInt8)),(p'.1≤(Q7 book (p_1.1:Int).toNat Cod.noG).2.1.length∧p'.2=Hea.ownW e.ws (Q8 p'.1 (Q7 book (p_1.1:Int).toNat Cod.noG).2.1))∧(0 :
  Int)=(p'.1:Int)∧p'.2=[])∧∀ (p_2:Nat×List (List UInt8)),p_2.1≤(Q7 book (p_1.1:Int).toNat Cod.noG).2.1.length∧p_2.2=Hea.ownW e.ws (Q8 p_2.1 (Q7
  book (p_1.1:Int).toNat Cod.noG).2.1)→bif decide ((p_2.1:Int)<(↑(Q7 book (p_1.1:Int).toNat Cod.noG).2.1.length:Int)) then ((0:Int)≤(p_2.1:Int)∧(p_2.1:Int) <
  (↑(Q7 book (p_1.1:Int).toNat Cod.noG).2.1.length:Int))∧((0:Int)≤(Q7 book (p_1.1:Int).toNat Cod.noG).2.1.getD (p_2.1:Int).toNat (0:Int)∧(Q7 book
  (p_1.1:Int).toNat Cod.noG).2.1.getD (p_2.1:Int).toNat (0:Int)<(e.ws.length:Int))∧(p_2.2.length+[e.ws.getD ((Q7 book (p_1.1:Int).toNat Cod.noG).2.1.getD (↑p_2.1 :
  Int).toNat (0:Int)).toNat []].length)*(16:Nat)≤(140737488355328:Nat)∧((-9223372036854775808:Int)≤(p_2.1:Int)+(1:Int)∧(p_2.1:Int)+(1:Int) ≤
  (9223372036854775807:Int))∧∃ (p':Nat×List (List UInt8)),(p'.1≤(Q7 book (p_1.1:Int).toNat Cod.noG).2.1.length∧p'.2=Hea.ownW e.ws (Q8 p'.1 (Q7 book
  (p_1.1:Int).toNat Cod.noG).2.1))∧(Q7 book (p_1.1:Int).toNat Cod.noG).2.1.length-p'.1<(Q7 book (p_1.1:Int).toNat Cod.noG).2.1.length-p_2.1∧(p_2.1:Int)+(1
  : Int)=(p'.1:Int)∧p_2.2++[e.ws.getD ((Q7 book (p_1.1:Int).toNat Cod.noG).2.1.getD (p_2.1:Int).toNat (0:Int)).toNat []]=p'.2 else (p_2.2.length≤(1000000:Nat) ∧
  w.length≤(1000000:Nat))∧bif p_2.2==w then ((Q7 book (p_1.1:Int).toNat Cod.noG).1,false,(0:Int))=R else (∃ (p':Nat),(p'≤(3:Nat)∧((1:Nat)≤p'→Hea.q3r
  (Hea.q07 e) p_2.2 w=false)∧((2:Nat)≤p'→Hea.q46 p_2.2 w=false)∧((3:Nat)≤p'→Hea.q47 p_2.2 w=false))∧(0:Int)=(p':Int))∧∀ (p_3:Nat),p_3≤(3:Nat) ∧
  ((1:Nat)≤p_3→Hea.q3r (Hea.q07 e) p_2.2 w=false)∧((2:Nat)≤p_3→Hea.q46 p_2.2 w=false)∧((3:Nat)≤p_3→Hea.q47 p_2.2 w=false)→bif decide ((p_3:Int)<(↑m
  : Int)) then ((0:Int)≤(p_3:Int)∧(p_3:Int)<(m:Int))∧((p_3:Int)=(0:Int)→bif (p_2.2.length:Int) != (w.length:Int) then ((-9223372036854775808:Int)≤(↑p_3 :
  Int)+(1:Int)∧(p_3:Int)+(1:Int)≤(9223372036854775807:Int))∧∃ (p':Nat),(p'≤(3:Nat)∧((1:Nat)≤p'→Hea.q3r (Hea.q07 e) p_2.2 w=false)∧((2:Nat)≤p' →
  Hea.q46 p_2.2 w=false)∧((3:Nat)≤p'→Hea.q47 p_2.2 w=false))∧(3:Nat)-p'<(3:Nat)-p_3∧(p_3:Int)+(1:Int)=(p':Int) else (∃ (p':Nat×Nat),(p'.1 ≤
  w.length∧p'.2=(Hea.diff (Q8 p'.1 p_2.2) (Q8 p'.1 w)).length∧((Hea.diff (Q8 p'.1 p_2.2) (Q8 p'.1 w)).all λ(q:Hea.Str×Hea.Str)=>Hea.q07 e q.1 q.2)
  = true)∧(0:Int)=(p'.1:Int)∧(0:Int)=(p'.2:Int))∧∀ (p_4:Nat×Nat),p_4.1≤w.length∧p_4.2=(Hea.diff (Q8 p_4.1 p_2.2) (Q8 p_4.1 w)).length∧((Hea.diff
  (Q8 p_4.1 p_2.2) (Q8 p_4.1 w)).all λ(q:Hea.Str×Hea.Str)=>Hea.q07 e q.1 q.2)=true→bif decide ((p_4.1:Int)<(w.length:Int)) then ((0:Int)≤(↑p_4.1 :
  Int)∧(p_4.1:Int)<(w.length:Int))∧((0:Int)≤(p_4.1:Int)∧(p_4.1:Int)<(p_2.2.length:Int))∧bif !w.getD (p_4.1:Int).toNat []==p_2.2.getD (p_4.1:Int).toNat []
  then ((-9223372036854775808:Int)≤(p_4.2:Int)+(1:Int)∧(p_4.2:Int)+(1:Int)≤(9223372036854775807:Int))∧((0:Int)≤(p_4.1:Int)∧(p_4.1:Int)<(↑p_2.2.length :
  Int))∧(q0n e.c∧(p_2.2.getD (p_4.1:Int).toNat []).length≤(1000000:Nat)∧(w.getD (p_4.1:Int).toNat []).length≤(1000000:Nat))∧bif !Snd.q0m e.c (p_2.2.getD (↑p_4.1 :
  Int).toNat []) (w.getD (p_4.1:Int).toNat []) then ((-9223372036854775808:Int)≤(p_3:Int)+(1:Int)∧(p_3:Int)+(1:Int)≤(9223372036854775807:Int))∧∃ (p':Nat),(p' ≤
  (3:Nat)∧((1:Nat)≤p'→Hea.q3r (Hea.q07 e) p_2.2 w=false)∧((2:Nat)≤p'→Hea.q46 p_2.2 w=false)∧((3:Nat)≤p'→Hea.q47 p_2.2 w=false))∧(3:Nat)-p'<(3 :
  Nat)-p_3∧(p_3:Int)+(1:Int)=(p':Int) else ((-9223372036854775808:Int)≤(p_4.1:Int)+(1:Int)∧(p_4.1:Int)+(1:Int)≤(9223372036854775807:Int))∧∃ (p':Nat
  × Nat),(p'.1≤w.length∧p'.2=(Hea.diff (Q8 p'.1 p_2.2) (Q8 p'.1 w)).length∧((Hea.diff (Q8 p'.1 p_2.2) (Q8 p'.1 w)).all λ(q:Hea.Str×Hea.Str) =>
  Hea.q07 e q.1 q.2)=true)∧w.length-p'.1<w.length-p_4.1∧(p_4.1:Int)+(1:Int)=(p'.1:Int)∧(p_4.2:Int)+(1:Int)=(p'.2:Int) else ((-9223372036854775808 :
  Int)≤(p_4.1:Int)+(1:Int)∧(p_4.1:Int)+(1:Int)≤(9223372036854775807:Int))∧∃ (p':Nat×Nat),(p'.1≤w.length∧p'.2=(Hea.diff (Q8 p'.1 p_2.2) (Q8 p'.1
  w)).length∧((Hea.diff (Q8 p'.1 p_2.2) (Q8 p'.1 w)).all λ(q:Hea.Str×Hea.Str)=>Hea.q07 e q.1 q.2)=true)∧w.length-p'.1<w.length-p_4.1∧(p_4.1:Int)+(1
  : Int)=(p'.1:Int)∧(p_4.2:Int)=(p'.2:Int) else bif (p_4.2:Int)==(1:Int) then (p_1.2.length+[(Q7 book (p_1.1:Int).toNat Cod.noG).1].length)*(16:Nat) ≤
  (140737488355328:Nat)∧((-9223372036854775808:Int)≤(p_1.1:Int)+(1:Int)∧(p_1.1:Int)+(1:Int)≤(9223372036854775807:Int))∧∃ (p':Nat×List (List UInt8)),(p'.1 ≤
  Q0 book∧p'.2.length≤p'.1∧Hea.q0l (Hea.q07 e) e.ws w book []=Hea.q0l (Hea.q07 e) e.ws w (Qf p'.1 book) p'.2)∧Q0 book-p'.1<Q0 book -
  p_1.1∧(p_1.1:Int)+(1:Int)=(p'.1:Int)∧p_1.2++[(Q7 book (p_1.1:Int).toNat Cod.noG).1]=p'.2 else ((-9223372036854775808:Int)≤(p_3:Int)+(1:Int)∧(↑p_3 :
  Int)+(1:Int)≤(9223372036854775807:Int))∧∃ (p':Nat),(p'≤(3:Nat)∧((1:Nat)≤p'→Hea.q3r (Hea.q07 e) p_2.2 w=false)∧((2:Nat)≤p'→Hea.q46 p_2.2 w=false) ∧
  ((3:Nat)≤p'→Hea.q47 p_2.2 w=false))∧(3:Nat)-p'<(3:Nat)-p_3∧(p_3:Int)+(1:Int)=(p':Int))∧((p_3:Int)=(1:Int)→(∃ (p':Nat),(p'≤p_2.2.length∧∀
  (i:Nat),i<p'→(p_2.2.eraseIdx i==w)=false)∧(0:Int)=(p':Int))∧∀ (p_4:Nat),(p_4≤p_2.2.length∧∀ (i:Nat),i<p_4→(p_2.2.eraseIdx i==w)=false)→bif decide
  ((p_4:Int)<(p_2.2.length:Int)) then ((-9223372036854775808:Int)≤(p_4:Int)+(1:Int)∧(p_4:Int)+(1:Int)≤(9223372036854775807:Int))∧(p_2.2.length≤(1000000 :
  Nat)∧(((0:Int)≤(p_4:Int)∧(p_4:Int)<(p_2.2.length:Int))∧((p_2.2.eraseIdx (p_4:Int).toNat).length≤(1000000:Nat)∧w.length≤(1000000:Nat))∧bif p_2.2.eraseIdx
  (p_4:Int).toNat==w then (p_1.2.length+[(Q7 book (p_1.1:Int).toNat Cod.noG).1].length)*(16:Nat)≤(140737488355328:Nat)∧((-9223372036854775808:Int)≤(p_1.1:Int)
  + (1:Int)∧(p_1.1:Int)+(1:Int)≤(9223372036854775807:Int))∧∃ (p':Nat×List (List UInt8)),(p'.1≤Q0 book∧p'.2.length≤p'.1∧Hea.q0l (Hea.q07 e) e.ws w
  book []=Hea.q0l (Hea.q07 e) e.ws w (Qf p'.1 book) p'.2)∧Q0 book-p'.1<Q0 book-p_1.1∧(p_1.1:Int)+(1:Int)=(p'.1:Int)∧p_1.2++[(Q7
  book (p_1.1:Int).toNat Cod.noG).1]=p'.2 else ((-9223372036854775808:Int)≤(p_4:Int)+(1:Int)∧(p_4:Int)+(1:Int)≤(9223372036854775807:Int))∧∃ (p':Nat),(p' ≤
  p_2.2.length∧∀ (i:Nat),i<p'→(p_2.2.eraseIdx i==w)=false)∧p_2.2.length-p'<p_2.2.length-p_4∧(p_4:Int)+(1:Int)=(p':Int))∧((0:Int)≤(p_4:Int)∧(↑p_4 :
  Int)<(p_2.2.length:Int))∧((p_2.2.eraseIdx (p_4:Int).toNat).length≤(1000000:Nat)∧w.length≤(1000000:Nat))∧bif p_2.2.eraseIdx (p_4:Int).toNat==w then (p_1.2.length +
  [(Q7 book (p_1.1:Int).toNat Cod.noG).1].length)*(16:Nat)≤(140737488355328:Nat)∧((-9223372036854775808:Int)≤(p_1.1:Int)+(1:Int)∧(p_1.1:Int)+(1:Int) ≤
  (9223372036854775807:Int))∧∃ (p':Nat×List (List UInt8)),(p'.1≤Q0 book∧p'.2.length≤p'.1∧Hea.q0l (Hea.q07 e) e.ws w book []=Hea.q0l (Hea.q07 e) e.ws w
  (Qf p'.1 book) p'.2)∧Q0 book-p'.1<Q0 book-p_1.1∧(p_1.1:Int)+(1:Int)=(p'.1:Int)∧p_1.2++[(Q7 book (p_1.1:Int).toNat Cod.noG).1] =
  p'.2 else ((-9223372036854775808:Int)≤(p_4:Int)+(1:Int)∧(p_4:Int)+(1:Int)≤(9223372036854775807:Int))∧∃ (p':Nat),(p'≤p_2.2.length∧∀ (i:Nat),i<p' →
  (p_2.2.eraseIdx i==w)=false)∧p_2.2.length-p'<p_2.2.length-p_4∧(p_4:Int)+(1:Int)=(p':Int))∧p_2.2.length≤(1000000:Nat)∧((0:Int)≤(p_4:Int)∧(↑p_4 :
  Int)<(p_2.2.length:Int))∧((p_2.2.eraseIdx (p_4:Int).toNat).length≤(1000000:Nat)∧w.length≤(1000000:Nat))∧bif p_2.2.eraseIdx (p_4:Int).toNat==w then (p_1.2.length +
  [(Q7 book (p_1.1:Int).toNat Cod.noG).1].length)*(16:Nat)≤(140737488355328:Nat)∧((-9223372036854775808:Int)≤(p_1.1:Int)+(1:Int)∧(p_1.1:Int)+(1:Int) ≤
  (9223372036854775807:Int))∧∃ (p':Nat×List (List UInt8)),(p'.1≤Q0 book∧p'.2.length≤p'.1∧Hea.q0l (Hea.q07 e) e.ws w book []=Hea.q0l (Hea.q07 e) e.ws w
  (Qf p'.1 book) p'.2)∧Q0 book-p'.1<Q0 book-p_1.1∧(p_1.1:Int)+(1:Int)=(p'.1:Int)∧p_1.2++[(Q7 book (p_1.1:Int).toNat Cod.noG).1] =
  p'.2 else ((-9223372036854775808:Int)≤(p_4:Int)+(1:Int)∧(p_4:Int)+(1:Int)≤(9223372036854775807:Int))∧∃ (p':Nat),(p'≤p_2.2.length∧∀ (i:Nat),i<p' →
  (p_2.2.eraseIdx i==w)=false)∧p_2.2.length-p'<p_2.2.length-p_4∧(p_4:Int)+(1:Int)=(p':Int) else ((-9223372036854775808:Int)≤(p_3:Int)+(1:Int)∧(↑p_3 :
  Int)+(1:Int)≤(9223372036854775807:Int))∧∃ (p':Nat),(p'≤(3:Nat)∧((1:Nat)≤p'→Hea.q3r (Hea.q07 e) p_2.2 w=false)∧((2:Nat)≤p'→Hea.q46 p_2.2 w=false) ∧
  ((3:Nat)≤p'→Hea.q47 p_2.2 w=false))∧(3:Nat)-p'<(3:Nat)-p_3∧(p_3:Int)+(1:Int)=(p':Int))∧((p_3:Int)=(2:Int)→((-9223372036854775808:Int) ≤
  (p_2.2.length:Int)-(1:Int)∧(p_2.2.length:Int)-(1:Int)≤(9223372036854775807:Int))∧(∃ (p':Nat),(p'≤p_2.2.length-(1:Nat)∧∀ (i:Nat),i<p'→(Hea.q1c p_2.2
  i==w&&p_2.2.getD i [] != p_2.2.getD (i+(1:Nat)) [])=false)∧(0:Int)=(p':Int))∧∀ (p_4:Nat),(p_4≤p_2.2.length-(1:Nat)∧∀ (i:Nat),i<p_4→(Hea.q1c p_2.2 i
  == w&&p_2.2.getD i [] != p_2.2.getD (i+(1:Nat)) [])=false)→bif decide ((p_4:Int)<(p_2.2.length:Int)-(1:Int)) then p_2.2.length≤(1000000:Nat) ∧
  (((-9223372036854775808:Int)≤(p_4:Int)+(1:Int)∧(p_4:Int)+(1:Int)≤(9223372036854775807:Int))∧((0:Int)≤(p_4:Int)+(1:Int)∧(p_4:Int)+(1:Int) <
  (p_2.2.length:Int))∧((0:Int)≤(p_4:Int)∧(p_4:Int)<(p_2.2.length:Int))∧((0:Int)≤(p_4:Int)∧(p_4:Int)<(p_2.2.length:Int))∧((-9223372036854775808:Int)
  ≤ (p_4:Int)+(1:Int)∧(p_4:Int)+(1:Int)≤(9223372036854775807:Int))∧bif (p_4:Int).toNat.beq (p_4:Int).toNat then ((0:Int)≤(p_4:Int)+(1:Int)∧(p_4:Int)
  + (1:Int)<(↑(p_2.2.set (p_4:Int).toNat (p_2.2.getD ((p_4:Int)+(1:Int)).toNat [])).length:Int))∧bif ((p_4:Int)+(1:Int)).toNat.beq ((p_4:Int)+(1:Int)).toNat
  then ∃ (p':Unit),(p_2.2.set (p_4:Int).toNat (p_2.2.getD ((p_4:Int)+(1:Int)).toNat [])).set ((p_4:Int)+(1:Int)).toNat (p_2.2.getD (p_4:Int).toNat [])=Hea.q1c p_2.2
  (p_4:Int).toNat else False else False)∧∀ (p_5:Unit),True→((Hea.q1c p_2.2 (p_4:Int).toNat).length≤(1000000:Nat)∧w.length≤(1000000:Nat))∧bif Hea.q1c p_2.2 (↑p_4 :
  Int).toNat==w then ((0:Int)≤(p_4:Int)∧(p_4:Int)<(p_2.2.length:Int))∧((-9223372036854775808:Int)≤(p_4:Int)+(1:Int)∧(p_4:Int)+(1:Int) ≤
  (9223372036854775807:Int))∧((0:Int)≤(p_4:Int)+(1:Int)∧(p_4:Int)+(1:Int)<(p_2.2.length:Int))∧bif !p_2.2.getD (p_4:Int).toNat []==p_2.2.getD ((p_4:Int) +
  (1:Int)).toNat [] then (p_1.2.length+[(Q7 book (p_1.1:Int).toNat Cod.noG).1].length)*(16:Nat)≤(140737488355328:Nat)∧((-9223372036854775808:Int)≤(p_1.1:Int) +
  (1:Int)∧(p_1.1:Int)+(1:Int)≤(9223372036854775807:Int))∧∃ (p':Nat×List (List UInt8)),(p'.1≤Q0 book∧p'.2.length≤p'.1∧Hea.q0l (Hea.q07 e) e.ws w book
  []=Hea.q0l (Hea.q07 e) e.ws w (Qf p'.1 book) p'.2)∧Q0 book-p'.1<Q0 book-p_1.1∧(p_1.1:Int)+(1:Int)=(p'.1:Int)∧p_1.2++[(Q7 book
  (p_1.1:Int).toNat Cod.noG).1]=p'.2 else ((-9223372036854775808:Int)≤(p_4:Int)+(1:Int)∧(p_4:Int)+(1:Int)≤(9223372036854775807:Int))∧∃ (p':Nat),(p' ≤
  p_2.2.length-(1:Nat)∧∀ (i:Nat),i<p'→(Hea.q1c p_2.2 i==w&&p_2.2.getD i [] != p_2.2.getD (i+(1:Nat)) [])=false)∧p_2.2.length-(1:Nat)-p'<p_2.2.length-(1 :
  Nat)-p_4∧(p_4:Int)+(1:Int)=(p':Int) else ((-9223372036854775808:Int)≤(p_4:Int)+(1:Int)∧(p_4:Int)+(1:Int)≤(9223372036854775807:Int))∧∃ (p':Nat),
  (p'≤p_2.2.length-(1:Nat)∧∀ (i:Nat),i<p'→(Hea.q1c p_2.2 i==w&&p_2.2.getD i [] != p_2.2.getD (i+(1:Nat)) [])=false)∧p_2.2.length-(1:Nat)-p'<p_2.2.length -
  (1:Nat)-p_4∧(p_4:Int)+(1:Int)=(p':Int) else ((-9223372036854775808:Int)≤(p_3:Int)+(1:Int)∧(p_3:Int)+(1:Int)≤(9223372036854775807:Int))∧∃ (p' :
  Nat),(p'≤(3:Nat)∧((1:Nat)≤p'→Hea.q3r (Hea.q07 e) p_2.2 w=false)∧((2:Nat)≤p'→Hea.q46 p_2.2 w=false)∧((3:Nat)≤p'→Hea.q47 p_2.2 w=false))∧(3:Nat)
  - p'<(3:Nat)-p_3∧(p_3:Int)+(1:Int)=(p':Int)) else ((-9223372036854775808:Int)≤(p_1.1:Int)+(1:Int)∧(p_1.1:Int)+(1:Int)≤(9223372036854775807:Int)) ∧
  ∃ (p':Nat×List (List UInt8)),(p'.1≤Q0 book∧p'.2.length≤p'.1∧Hea.q0l (Hea.q07 e) e.ws w book []=Hea.q0l (Hea.q07 e) e.ws w (Qf p'.1 book) p'.2) ∧
  Q0 book-p'.1<Q0 book-p_1.1∧(p_1.1:Int)+(1:Int)=(p'.1:Int)∧p_1.2=p'.2 else bif (p_1.2.length:Int)==(0:Int) then ([],false,(10:Int))=R
  else bif (p_1.2.length:Int)==(1:Int) then ((0:Int)≤(0:Int)∧(0:Int)<(p_1.2.length:Int))∧(p_1.2.getD 0 [],true,(0:Int))=R else ([],false,(8:Int))=R:=by
 subst hm;refine ⟨⟨(0,[]),⟨Qe _,Qo _,rfl⟩,rfl,rfl⟩,?_⟩;rintro ⟨i,doors⟩ ⟨hi,hd,hf⟩;have hi:i≤book.length:=hi;have hd:doors.length≤i:=hd;have hf:Hea.q0l (Hea.q07 e) e.ws w book []=Hea.q0l (Hea.q07 e) e.ws w (book.drop i) doors:=hf;have hti:((i:Int).toNat)=i:=rfl;dsimp only;simp only [hti];refine bifP (λhb=>?_) λhb=>?_
 ·have hlt:i<book.length:=by have:=of_decide_eq_true hb;omega
  have hmem:=Snd.q1p book Cod.noG i hlt;have hdrop:book.drop i=book.getD i Cod.noG::book.drop (i+1):=by
   rw [Qz hlt,Qi,Qj hlt];rfl
  generalize book.getD i Cod.noG=g at hmem hdrop ⊢;obtain ⟨hok,hgc⟩:=Hea.proper_code hp hmem;obtain ⟨hv,hlen,hin⟩:=Cod.code_out hgc;have hnext:∀ ds:List (List UInt8),ds.length≤i+1→Hea.q0l (Hea.q07 e) e.ws w (book.drop i) doors=Hea.q0l (Hea.q07 e) e.ws w (book.drop (i+1)) ds →
    ((-9223372036854775808:Int)≤(i:Int)+(1:Int)∧(i:Int)+(1:Int)≤(9223372036854775807:Int))∧∃ (p':Nat×List (List UInt8)),(p'.1≤Q0 book∧p'.2.length≤p'.1∧Hea.q0l (Hea.q07 e) e.ws w book []=Hea.q0l (Hea.q07 e) e.ws w (Qf p'.1 book) p'.2)∧Q0 book-p'.1<Q0 book-i∧(i:Int)+(1:Int)=(p'.1:Int)∧ds=p'.2:=λds h1 h2 =>
   ⟨⟨by omega,by omega⟩,(i+1,ds),⟨hlt,h1,hf.trans h2⟩,by show book.length-(i+1)<book.length-i;omega,by push_cast;rfl,rfl⟩
  refine ⟨⟨by omega,by omega⟩,⟨(0,[]),⟨Qe _,rfl⟩,rfl,rfl⟩,?_⟩
  rintro ⟨k,own⟩ ⟨hk,ho⟩;have hk:k≤g.2.1.length:=hk;obtain rfl:own=Hea.ownW e.ws (g.2.1.take k):=ho;have htk:((k:Int).toNat)=k:=rfl;dsimp only;simp only [htk];refine bifP (λhb=>?_) λhb=>?_
  ·have hkl:k<g.2.1.length:=by have:=of_decide_eq_true hb;omega
   obtain ⟨q0,q1⟩:=Cod.qe7 hin hkl;have hol:(Hea.ownW e.ws (g.2.1.take k)).length≤5:=by rw [Hea.own_len,Qd];omega
   refine ⟨⟨by omega,by omega⟩,⟨q0,q1⟩,by rw [Qh];omega,⟨by omega,by omega⟩,(k+1,_),⟨hkl,rfl⟩,by show g.2.1.length-(k+1)<g.2.1.length-k;omega,by push_cast;rfl,ownH_snoc _ _ _ hkl⟩
  ·have hkl:g.2.1.length≤k:=by have:=of_decide_eq_false hb;omega
   rw [Qb hkl];have hol:(Hea.ownW e.ws g.2.1).length≤5:=by rw [Hea.own_len];omega
   have hos:=ownH_long e.ws hW g.2.1;generalize hown:Hea.ownW e.ws g.2.1=own at hol hos ⊢;refine ⟨⟨by omega,by omega⟩,bifP (λhb=>?_) λhne=>?_⟩
   ·rw [hR,hf,hdrop,Hea.q0l,hown,if_pos hb]
   have hyes:Hea.qa9 (Hea.q07 e) own w=true→(doors.length+[g.1].length)*(16:Nat)≤(140737488355328:Nat)∧((-9223372036854775808:Int)≤(i:Int)+(1:Int)∧(i:Int)+(1:Int)≤(9223372036854775807:Int))∧∃ (p':Nat×List (List UInt8)),(p'.1≤Q0 book∧p'.2.length≤p'.1∧Hea.q0l (Hea.q07 e) e.ws w book []=Hea.q0l (Hea.q07 e) e.ws w (Qf p'.1 book) p'.2)∧Q0 book-p'.1<Q0 book-i∧(i:Int)+(1:Int)=(p'.1:Int)∧doors++[g.1]=p'.2:=λh=>by
    refine ⟨by rw [Qh];omega,hnext (doors++[g.1]) (by rw [Q9,Qh];omega) ?_⟩
    rw [hdrop,Hea.q0l,hown,if_neg (by rw [hne];decide),h,if_pos rfl]
   refine ⟨⟨0,⟨Qe _,λh=>absurd h (by omega),λh=>absurd h (by omega),λh=>absurd h (by omega)⟩,rfl⟩,?_⟩
   rintro j ⟨hj,h1,h2,h3⟩;refine bifP (λhb=>?_) λhb=>?_
   ·have hj3:j<3:=by have:=of_decide_eq_true hb;omega
    refine ⟨⟨by omega,by omega⟩,λhj0=>?_,λhj0=>?_,λhj0=>?_⟩
    ·obtain rfl:j=0:=by omega
     refine Hea.repl_part e own w hC hos hwl (by omega) (λh=>hyes (by unfold Hea.qa9;rw [h];rfl)) λh=>⟨⟨by omega,by omega⟩,1,⟨by omega,λ_=>h,λh'=>absurd h' (by omega),λh'=>absurd h' (by omega)⟩,by omega,rfl⟩
    ·obtain rfl:j=1:=by omega
     refine Hea.miss_part own w (by omega) (by omega) (λh=>hyes (by unfold Hea.qa9;rw [h,Bool.true_or,QJ])) λh=>⟨⟨by omega,by omega⟩,2,⟨by omega,λ_=>h1 (by omega),λ_=>h,λh'=>absurd h' (by omega)⟩,by omega,rfl⟩
    ·obtain rfl:j=2:=by omega
     refine Hea.exch_part own w (by omega) (by omega) (λh=>hyes (by unfold Hea.qa9;rw [h,QJ,QJ])) λh=>⟨⟨by omega,by omega⟩,3,⟨by omega,λ_=>h1 (by omega),λ_=>h2 (by omega),λ_=>h⟩,by omega,rfl⟩
   ·have hj3:3≤j:=by have:=of_decide_eq_false hb;omega
    refine hnext doors (by omega) ?_
    have hno:Hea.qa9 (Hea.q07 e) own w=false:=by
     unfold Hea.qa9;rw [h1 (by omega),h2 (by omega),h3 (by omega)];rfl
    rw [hdrop,Hea.q0l,hown,if_neg (by rw [hne];decide),hno,if_neg (by decide)]
 ·have hle:book.length≤i:=by have:=of_decide_eq_false hb;omega
  rw [Qp hle] at hf;rw [hR,hf];refine bifP (λhb=>?_) λh0=>bifP (λhb=>?_) λh1=>?_
  ·have:=eq_of_beq hb
   obtain rfl:doors=[]:=Qc (by omega)
   rfl
  ·have:=eq_of_beq hb
   obtain ⟨d,rfl⟩:=List.length_eq_one_iff.1 (show doors.length=1 by omega)
   exact ⟨⟨by omega,by rw [Qh];omega⟩,rfl⟩
  ·match doors with
   | []=>exact absurd rfl (beq_eq_false_iff_ne.1 h0)
   | [d]=>exact absurd rfl (beq_eq_false_iff_ne.1 h1)
   | _::_::_=>rfl
end Go.Proofs.YtlfaaoalgcbcoaaGreatDoor

/-
  Several texts in one: HfC, HfL, HfD, HfF, HfG, HfH, HfI, HmA, HeS, CrL, HmB, CrB.
-/
import Derived.Test.YtlfaaoalgcbcoaaGreatDoorPR
import Derived.Test.YtlfaaoalgcbcoaaGreatDoorPA
import Derived.Test.YtlfaaoalgcbcoaaGreatDoorPQ
import Derived.Test.YtlfaaoalgcbcoaaGreatDoorPP
open List renaming getD_eq_getElem?_getD→Q0,getElem?_eq_getElem→Q4,take→Q7,length_cons→Q8,length→Qa,length_singleton→Qb,drop→Qc,all_cons→Qg,length_take→Qh,filter→Qj,getElem_mem→Qk,length_append→Ql,take_length→Qo,eraseIdx_eq_take_drop_succ→Qr,any_eq_true→Qs,length_drop→Qt,mem_range→Qv,map_cons→Qw,length_nil→Qy,all_nil→QA,sum_cons→QE,take_add_one→QG,drop_eq_getElem_cons→QH,all_eq_true→QI,length_map→QK,length_set→QL,all_append→QN,take_of_length_le→QO,set_getElem_self→QP,length_filter_le→QQ,mem_cons_of_mem→QS,takeWhile_cons→QT,mem_cons_self→QU,getD→QV,filter_append→QW,map_append→QZ,filter_nil→W9,nil_append→Wd,drop_zero→Wh
open Bool renaming and_eq_true→Q9,not_eq_false'→Qd,not_eq_true'→Qi,and_false→Qn,or_true→Qu,true_and→Qx,or_eq_true→Qz,and_true→QF,true_or→QJ,false_and→QR,not_eq_true→QY,and_assoc→We
open Nat renaming zero_le→Qe,le_trans→Qm,mul_le_mul_right→Qq,le_refl→QC,add_sub_cancel→QD,not_lt_zero→QM
open Int renaming toNat_natCast→Qf,toNat→Qp
set_option linter.unusedVariables false
namespace Go.Proofs.YtlfaaoalgcbcoaaGreatDoor
open Go.RowKit R
set_option maxRecDepth 100000 in
theorem exact42_vc (lang:List UInt8) (ws:List (List UInt8)) (code:List Int) (words:List (List UInt8)) (h:cExact.pre ((lang,ws),code,words)) :
    (∃ (p':Nat),p'≤code.length∧(True∧(0:Int)=(p':Int)∧code=code∧words=words∧True∧True)∧((lang=lang∧ws=ws∧True)∧True)∧(Hea.ownW ws (Q7 p' code) =
    []∧True)∧True∧True∧True∧True∧True∧True∧True)∧∀ (p:Nat),p≤code.length→bif decide ((p:Int)<(code.length:Int)) then ((0:Int)≤(p:Int)∧(p:Int) <
    (code.length:Int))∧((0:Int)≤code.getD (p:Int).toNat (0:Int)∧code.getD (p:Int).toNat (0:Int)<(ws.length:Int))∧((Hea.ownW ws (Q7 p code)).length+[ws.getD
    (code.getD (p:Int).toNat (0:Int)).toNat []].length)*(16:Nat)≤(140737488355328:Nat)∧((-9223372036854775808:Int)≤(p:Int)+(1:Int)∧(p:Int)+(1:Int) ≤
    (9223372036854775807:Int))∧∃ (p':Nat),p'≤code.length∧code.length-p'<code.length-p∧(True∧(p:Int)+(1:Int)=(p':Int)∧code=code∧words=words∧True∧True)
    ∧ ((lang=lang∧ws=ws∧True)∧True)∧(Hea.ownW ws (Q7 p code)++[ws.getD (code.getD (p:Int).toNat (0:Int)).toNat []]=Hea.ownW ws (Q7 p' code)∧True)∧True ∧
    True∧True∧True∧True∧True∧True else (Hea.ownW ws (Q7 p code)).length≤(1000000000000000:Nat)∧(Hea.ownW ws (Q7 p code)==words)=(Hea.ownW ws code==words)
     := by
  obtain ⟨hl,hin⟩:=h;simp only [true_and,and_true];have hl:code.length≤1000000:=hl;refine ⟨⟨0,Qe _,rfl,rfl⟩,?_⟩;intro p hp;have hlen:(Hea.ownW ws (code.take p)).length=p:=by rw [Hea.ownW,QK,Qh];omega
  have hti:((p:Int).toNat)=p:=rfl;simp only [hti];refine bifP (λhb=>?_) λhb=>?_
  · have hlt:p<code.length:=by have:=of_decide_eq_true hb;omega
    have hc:=Cod.qe7 hin hlt;refine ⟨⟨by omega,by omega⟩,hc,by rw [hlen,Qb];omega,⟨by omega,by omega⟩,p+1,by omega,by omega,by omega,?_⟩
    have hg:code.getD p 0=code[p]:=by rw [Q0,Q4 hlt];rfl
    rw [QG,Q4 hlt,hg];simp only [Hea.ownW,QZ,Option.toList_some,Qw,List.map_nil]
  · have hle:code.length≤p:=by have:=of_decide_eq_false hb;omega
    rw [hlen,QO hle];exact ⟨by omega,rfl⟩
set_option maxRecDepth 100000 in
theorem qfz:cExact.Holds Tryz.prog:=by
 refine q0o (cons:=[cSameW]) Tryz.func79 (by kernel_rfl) (by kernel_rfl) mixed (by kernel_rfl) (all_cons qif all_nil) (λp=>anExact p.1.2 p.2.1) λp hp=>?_
 obtain ⟨⟨lang,ws⟩,code,words⟩:=p;refine cast ?_ (exact42_vc lang ws code words hp)
 kernel_rfl
end Go.Proofs.YtlfaaoalgcbcoaaGreatDoor
namespace Go.Proofs.YtlfaaoalgcbcoaaGreatDoor
namespace Hea
def stepW (out:List Str) (c:UInt8):List Str:=if c==32 then out++[[]] else out.set (out.length-1) (out.getD (out.length-1) []++[c])
theorem qf6 (x:Str) {l:List Str} (hl:l≠[]) (c:UInt8):stepW (x::l) c=x::stepW l c:=by
 unfold stepW;obtain ⟨n,hn⟩:∃ n,l.length=n+1:=⟨l.length-1,by have:=List.length_pos_iff.2 hl;omega⟩
 cases hc:(c==32)
 ·rw [if_neg (by simp),if_neg (by simp),Q8,hn,QD,QD];rfl
 ·rw [if_pos rfl,if_pos rfl];rfl
theorem cutW_snoc (c:UInt8):∀ s:Str,cutW (s++[c])=stepW (cutW s) c
 | []=>by
  show cutW [c]=stepW [[]] c;unfold stepW;cases hc:(c==32)
  ·simp [cutW,hc]
  ·simp [cutW,hc]
 | a::r=>by
  have ih:=cutW_snoc c r;have hne:=qhg r;rw [List.cons_append,cutW,cutW,ih];cases ha:(a==32)
  ·rw [if_neg (by simp),if_neg (by simp)]
   cases h:cutW r with
   | nil=>exact absurd h hne
   | cons w ws =>
    cases ws with
    | nil =>
     unfold stepW;cases hc:(c==32)
     ·simp
     ·simp
    | cons v vs =>
     rw [qf6 w (by simp),qf6 (a::w) (by simp)]
  ·rw [if_pos rfl,if_pos rfl,qf6 _ hne]
theorem qlz (s:Str) {p:Nat} (hp:p<s.length):(s.take (p+1)).drop p=[s.getD p 0]:=by
 have hg:s.getD p 0=s[p]:=by rw [Q0,Q4 hp];rfl
 rw [hg,List.drop_take,Nat.add_sub_cancel_left,QH hp];rfl
theorem take_one (s:Str) {p:Nat} (hp:p<s.length):s.take (p+1)=s.take p++[s.getD p 0]:=by
 have hg:s.getD p 0=s[p]:=by rw [Q0,Q4 hp];rfl
 rw [hg,QG,Q4 hp];rfl
theorem take_oneL (s:List Str) {p:Nat} (hp:p<s.length):s.take (p+1)=s.take p++[s.getD p []]:=by
 have hg:s.getD p []=s[p]:=by rw [Q0,Q4 hp];rfl
 rw [hg,QG,Q4 hp];rfl
theorem cut_step (s:Str) {p:Nat} (hp:p<s.length):cutW (s.take (p+1))=stepW (cutW (s.take p)) (s.getD p 0):=by
 rw [take_one s hp,cutW_snoc]
theorem qem:∀ s:Str,(cutW s).length≤s.length+1
 | []=>QC _
 | c::r=>by
  have ih:=qem r;rw [cutW];split
  ·rw [Q8,Q8];omega
  ·split
   ·rename_i h;rw [h,Q8] at ih;rw [Q8,Q8];omega
   ·rw [Q8,Q8,Qy];omega
theorem qgs:∀ (s:Str) (w:Str),w∈cutW s→w.length≤s.length
 | [],w,h=>by
  have:w=[]:=by simpa [cutW] using h
  rw [this];exact QC _
 | c::r,w,h=>by
  have ih:=qgs r;rw [Q8];rw [cutW] at h;split at h
  ·cases List.mem_cons.1 h with
   | inl e=>rw [e];exact Qe _
   | inr e=>have:=ih w e;omega
  ·split at h
   ·rename_i v vs hv
    rw [hv] at ih;cases List.mem_cons.1 h with
    | inl e=>have:=ih v QU;rw [e,Q8];omega
    | inr e=>have:=ih w (QS _ e);omega
   ·have:w=[c]:=by simpa using h
    rw [this,Qb];omega
theorem cut_getD_len (s:Str) (i:Nat):((cutW s).getD i []).length≤s.length:=by
 rw [Q0];cases h:(cutW s)[i]? with
 | none=>exact Qe _
 | some w=>exact qgs s w (List.mem_of_getElem? h)
theorem all_bad {α:Type} {l:List α} {f:α→Bool} {d:α} {p:Nat} (hp:p<l.length) (h:f (l.getD p d)=false):l.all f=false:=by
 have hg:l.getD p d=l[p]:=by rw [Q0,Q4 hp];rfl
 rw [hg] at h;cases ha:l.all f
 ·rfl
 ·have:=QI.1 ha l[p] (Qk hp)
  rw [h] at this;cases this
end Hea
end Go.Proofs.YtlfaaoalgcbcoaaGreatDoor
namespace Go.Proofs.YtlfaaoalgcbcoaaGreatDoor
open Go.RowKit
namespace Hea
def okC (c:UInt8):Bool:=c==32||(decide (97≤c.toNat)&&decide (c.toNat≤122))
def okL (w:Str):Bool:=decide (1≤w.length)&&decide (w.length≤12)
def q1h (text:Str):List Str×Bool:=if 100<text.length then ([],false) else if !text.all okC then ([],false) else if !(cutW text).all okL then ([],false) else (cutW text,decide ((cutW text).length≤5))
end Hea
open R
def cSaid:Con:=.of 78 [.one .str] [qac,q13] (λ_=>True) (λp=>Hea.q1h p)
def anSaid (text:List UInt8):List (Nat×Ann) :=
  [annX 0 Nat (λst k=>st.hd { live:=[0],sav:=[],box:=[] } [(4,ownAV 10),(5,R.int .i64 k)] [] [(10,q4d (Hea.cutW (text.take k)))] [] none)
    (λ_ k=>k≤text.length∧(text.take k).all Hea.okC=true) (λ_ k=>text.length-k),
   annX 2 Nat (λst k=>st.hd { live:=[0],sav:=[],box:=[] } [(4,ownAV 10),(6,R.int .i64 k)] [] [(10,q4d (Hea.cutW text))] [] none)
    (λ_ k=>k≤(Hea.cutW text).length∧((Hea.cutW text).take k).all Hea.okL=true) (λ_ k=>(Hea.cutW text).length-k),
   q65 11]
end Go.Proofs.YtlfaaoalgcbcoaaGreatDoor
namespace Go.Proofs.YtlfaaoalgcbcoaaGreatDoor
namespace Hea
def letW (w:Str):Bool:=w.all λc=>decide (97≤c.toNat)&&decide (c.toNat≤122)
theorem all_cut:∀ s:Str,s.all okC=(cutW s).all letW
 | []=>rfl
 | c::r=>by
  have ih:=all_cut r;rw [Qg,cutW,okC];cases hc:(c==32)
  ·rw [if_neg (by simp)]
   cases h:cutW r with
   | nil=>exact absurd h (qhg r)
   | cons w ws =>
    rw [h,Qg] at ih;rw [ih];show ((false||(decide (97≤c.toNat)&&decide (c.toNat≤122)))&&(letW w&&ws.all letW))=(((decide (97≤c.toNat)&&decide (c.toNat≤122))&&letW w)&&ws.all letW);rw [Bool.false_or,We (decide (97≤c.toNat)&&decide (c.toNat≤122)) (letW w)]
  ·rw [if_pos rfl,Qg,ih];rfl
theorem word_split (w:Str):q5e w=(okL w&&letW w):=by
 unfold q5e okL letW;cases w with
 | nil=>rfl
 | cons c r=>simp [We]
theorem qd4:∀ l:List Str,l.all q5e=(l.all okL&&l.all letW)
 | []=>rfl
 | w::r=>by
  rw [Qg,Qg,Qg,qd4 r,word_split];cases okL w <;> cases letW w <;> simp
theorem cut_total:∀ s:Str,(cutW s).all okL=true→s.length+1≤13*(cutW s).length:=by
 have key:∀ l:List Str,l.all okL=true→(l.map λw=>w.length+1).sum≤13*l.length:=by
  intro l
  induction l with
  | nil=>intro _;exact QC _
  | cons w r ih =>
   intro h;rw [Qg,Q9] at h;have h1:=ih h.2;have h2:w.length≤12:=by have:=h.1;unfold okL at this;rw [Q9] at this;exact of_decide_eq_true this.2
   rw [Qw,QE,Q8];omega
 have sum:∀ s:Str,((cutW s).map λw=>w.length+1).sum=s.length+1:=by
  intro s
  induction s with
  | nil=>rfl
  | cons c r ih =>
   rw [cutW];split
   ·rw [Qw,QE,ih,Q8,Qy];omega
   ·split
    ·rename_i w ws h;rw [h,Qw,QE] at ih;rw [Qw,QE,Q8,Q8];omega
    ·rename_i h;exact absurd h (qhg r)
 intro s h;rw [← sum s];exact key _ h
theorem ql1 {text:Str} {w:List Str} (h:q5b text=some w):q1h text=(w,true):=by
 unfold q5b at h;split at h
 ·rename_i hc
  rw [Q9,qd4,Q9] at hc;injection h with h;have h5:=of_decide_eq_true hc.2;have ht:=cut_total text hc.1.1;unfold q1h;rw [if_neg (by omega),if_neg (by rw [all_cut,hc.1.2];simp),if_neg (by rw [hc.1.1];simp),h,← h,decide_eq_true h5]
 ·cases h
theorem saidR_none {text:Str} (h:q5b text=none):(q1h text).2=false:=by
 unfold q1h;split
 ·rfl
 split
 ·rfl
 split
 ·rfl
 ·rename_i h1 h2 h3
  unfold q5b at h;split at h
  ·cases h
  ·rename_i hc
   rw [qd4,← all_cut] at hc;cases h4:text.all okC
   ·rw [h4] at h2;simp at h2
   cases h5:(cutW text).all okL
   ·rw [h5] at h3;simp at h3
   rw [h4,h5] at hc
   simpa using hc
end Hea
namespace Hea
def q3u (al:Str→Str→Bool) (own words:List Str) (i:Nat):Bool :=
 own.take i++own.drop (i+1)==words ||
 ((decide (i<words.length)&&al (own.getD i []) (words.getD i []))&&own.set i (words.getD i [])==words) ||
 (decide (0<i)&&(own.set (i-1) (own.getD i [])).set i (own.getD (i-1) [])==words)
def misR (al:Str→Str→Bool) (own words:List Str):Bool:=!(own==words)&&(List.range own.length).any (q3u al own words)
end Hea
namespace Hea
theorem miss_at (own words:List Str):q46 own words=(List.range own.length).any λi=>own.take i++own.drop (i+1)==words:=by
 unfold q46
 congr 1
 funext i
 rw [Qr]
theorem set_self (l:List Str) (i:Nat):l.set i (l.getD i [])=l:=by
 by_cases h:i<l.length
 ·have hg:l.getD i []=l[i]:=by rw [Q0,Q4 h];rfl
  rw [hg,QP]
 ·exact List.set_eq_of_length_le (by omega)
theorem mis_iff {al:Str→Str→Bool} {own words:List Str} (hne:own≠words):misR al own words=true↔qa9 al own words=true:=by
 have hb:(own==words)=false:=beq_eq_false_iff_ne.2 hne;unfold misR qa9;rw [hb,Bool.not_false,Qx,Qs,Qz,Qz,miss_at,Qs];constructor
 ·rintro ⟨i,hi,h⟩
  have hil:=Qv.1 hi;unfold q3u at h;rw [Qz,Qz] at h;rcases h with (h | h) | h
  ·exact .inr (.inl ⟨i,hi,h⟩)
  ·left
   rw [Q9,Q9] at h;have hs:=eq_of_beq h.2;have hn:words.getD i []≠own.getD i []:=by
    intro e;rw [e] at hs;refine hne (Eq.trans ?_ hs);have hg:own.getD i []=own[i]:=by rw [Q0,Q4 hil];rfl
    rw [hg,QP]
   have hd:=diff_set hil hn;rw [hs] at hd;unfold q3r;rw [hd,show own.length=words.length by rw [← hs,QL]]
   rw [beq_self_eq_true,Qx,Qg,QA];show ((al (own.getD i []) (words.getD i [])&&true)&&true)=true;rw [h.1.2];rfl
  ·right;right
   rw [Q9] at h;have h0:=of_decide_eq_true h.1;unfold q47;rw [Qs];refine ⟨i-1,Qv.2 (by omega),?_⟩
   have he:q1c own (i-1)=words:=by
    have:=eq_of_beq h.2
    unfold q1c;rw [show i-1+1=i by omega];exact this
   rw [he,beq_self_eq_true,Qx,bne_iff_ne];intro e;refine hne (Eq.trans ?_ he);unfold q1c;rw [← e,set_self,e,set_self]
 ·rintro (h | ⟨i,hi,h⟩ | h)
  ·unfold q3r at h
   rw [Q9,Q9] at h;obtain ⟨hl,ha,h1⟩:=h;obtain ⟨p,hp⟩:=List.length_eq_one_iff.1 (eq_of_beq h1);obtain ⟨i,hi,h2,h3,h4⟩:=diff_one (eq_of_beq hl) hp;have hil:i<words.length:=by rw [← eq_of_beq hl];exact hi
   have hw:words.getD i []=p.2:=by rw [h4,Q0,List.getElem?_set_self hi];rfl
   rw [hp,Qg,QA,QF] at ha;refine ⟨i,Qv.2 hi,?_⟩;unfold q3u;rw [decide_eq_true hil,hw,← h2,ha,← h4,beq_self_eq_true];simp
  ·refine ⟨i,hi,?_⟩
   unfold q3u;rw [h,QJ,QJ]
  ·unfold q47 at h
   rw [Qs] at h;obtain ⟨i,hi,h⟩:=h;rw [Q9] at h;have hil:=Qv.1 hi;refine ⟨i+1,Qv.2 (by omega),?_⟩
   have he:=h.1;unfold q1c at he;unfold q3u;rw [decide_eq_true (Nat.succ_pos i),QD,he,Qx,Qu]
end Hea
open Go.RowKit R
def annF (l:Nat) (frz:List Nat) (ι:Type) (at_:St→ι→St) (inv:St→ι→Prop):Nat×Ann:=(2000000+l,{ ι:=ι,at_:=at_,inv:=inv,mu:=λ_ _=>0,live:=frz })
def dataS (l:List (List UInt8)):AV:=.c (.one (.val (.sl kS) l))
def cMisR:Con:=.of 80 [ckWl,ckCf,q44,qac] [q13] (λp=>q0w p.1∧q0n p.2.1∧Qa p.2.2.1≤1000000∧Cod.inB p.1.2.length p.2.2.1=true∧Qa p.2.2.2≤1000000∧∀ s∈p.2.2.2,s.length≤1000000)
 (λp=>Hea.misR (Snd.q0m p.2.1) (Hea.ownW p.1.2 p.2.2.1) p.2.2.2)
def anMisR (c:CfP) (ws:List (List UInt8)) (code:List Int) (words:List (List UInt8)):List (Nat×Ann) :=
  [annX 0 Nat (λst k=>st.hd { live:=[1,2,3,4],sav:=[],box:=[4] } [(9,ownAV 34),(10,R.int .i64 k)] [] [(34,q4d (Hea.ownW ws (code.take k)))] [] none)
    (λ_ k=>k≤code.length) (λ_ k=>code.length-k),
   annF 8 [34] Unit (λst _=>st.hd { live:=[1,2,3,4],sav:=[],box:=[4] } [(9,dataS (Hea.ownW ws code))] [] [] [] none) (λ_ _=>True),
   annX 2 Nat (λst k=>st.hd { live:=[1,2,3,4,9],sav:=[],box:=[4] } [(11,R.int .i64 k)] [] [] [] none)
    (λ_ k=>k≤code.length∧∀ j,j<k→Hea.q3u (Snd.q0m c) (Hea.ownW ws code) words j=false) (λ_ k=>code.length-k),
   q65 7]
def consMisR:List Con:=[cExact,cSameW,cRAlike]
def GoodBk (l:WlP) (book:List Cod.Giv):Prop:=book.length≤1000∧∀ g∈book,SmallC l g.2.1
def q5d (e:Cod.Ear) (book:List Cod.Giv) (text:List UInt8):List UInt8×Bool×Int:=match Hea.q5b text with
 | none=>([],false,5)
 | some words=>Hea.q0l (Hea.q07 e) e.ws words book []
def cQHr:Con:=.of 29 [ckWl,ckCf,q43,q28] [q28,q13,q7h] (λp=>q3i p.1 p.2.1∧GoodBk p.1 p.2.2.1) (λp=>q5d (q04 p.1 p.2.1) p.2.2.1 p.2.2.2)
def lastS (l:List (List UInt8)):List UInt8:=l.getLastD []
def anQHr (l:WlP) (c:CfP) (book:List Cod.Giv) (text:List UInt8):List (Nat×Ann) :=
 [annX 0 (Nat×List (List UInt8)) (λst p=>st.hd { live:=[1,2,4,11],sav:=[],box:=[4] } [(13,str (lastS p.2)),(14,R.int .i64 p.2.length),(15,R.int .i64 p.1)] [] [] [] none)
  (λ_ p=>p.1≤book.length∧p.2.length≤p.1∧Hea.q0l (Hea.q07 (q04 l c)) l.2 (Hea.q1h text).1 book []=Hea.q0l (Hea.q07 (q04 l c)) l.2 (Hea.q1h text).1 (book.drop p.1) p.2) (λ_ p=>book.length-p.1)]
def cQHear:Con:=.of 8 [ckWl,ckCf,q43,q28] [q28,q13,q7h] (λp=>q3i p.1 p.2.1∧q8n p.2.2.1) (λp=>Hea.q1f (q04 p.1 p.2.1) p.2.2.1 p.2.2.2)
def cQHere:Con:=.of 10 [ckWl,ckCf,q43,ckPt,q28] [q28,q13,q7h] (λp=>q3i p.1 p.2.1∧q8n p.2.2.1) (λp=>Hea.q29 (q04 p.1 p.2.1) p.2.2.1 p.2.2.2.1 p.2.2.2.2)
noncomputable def consHm:List Con:=[cHead42,cFew42,cHear,cHere,cQHear,cQHere]
def cLHm:Con:=.of 3 [ckWl,ckCf,q43,ckPt,q28] [q13] (λp=>CK.Big ckWl p.1∧CK.Big ckCf p.2.1∧CK.Big q43 p.2.2.1∧CK.Big ckPt p.2.2.2.1∧CK.Big q28 p.2.2.2.2) (λ_=>true)
set_option maxRecDepth 100000 in
theorem near42_vc (book:q0e) (pt:Int×Int) (h:cNear42.pre (book,pt)) :
    (∃ (p':Nat),p'≤Qa book∧(True∧(0:Int)=(p':Int)∧book=book∧True∧True)∧((pt.1=pt.1∧pt.2=pt.2∧True)∧True)∧(Qj (Hea.q02 pt) (Q7 p'
    book)=[]∧True)∧True∧True∧True∧True∧True∧True∧True)∧∀ (p:Nat),p≤Qa book→bif decide ((p:Int)<(↑(Qa book):Int)) then ((0:Int)≤(p:Int)
    ∧ (p:Int)<(↑(Qa book):Int))∧bif (QV book (p:Int).toNat Cod.noG).2.2.1 then ((0:Int)≤(p:Int)∧(p:Int)<(↑(Qa book):Int))∧True∧bif decide
    (Cod.q1n (QV book (p:Int).toNat Cod.noG).2.2.2 pt≤(250000:Int)) then ((0:Int)≤(p:Int)∧(p:Int)<(↑(Qa book):Int))∧((Qj (Hea.q02 pt)
    (Q7 p book)).length+[QV book (p:Int).toNat Cod.noG].length)*(64:Nat)≤(140737488355328:Nat)∧((-9223372036854775808:Int)≤(p:Int)+(1:Int)∧(p:Int) +
    (1:Int)≤(9223372036854775807:Int))∧∃ (p':Nat),p'≤Qa book∧Qa book-p'<Qa book-p∧(True∧(p:Int)+(1:Int)=(p':Int)∧book=book ∧
    True∧True)∧((pt.1=pt.1∧pt.2=pt.2∧True)∧True)∧(Qj (Hea.q02 pt) (Q7 p book)++[QV book (p:Int).toNat Cod.noG]=Qj (Hea.q02 pt)
    (Q7 p' book)∧True)∧True∧True∧True∧True∧True∧True∧True else ((-9223372036854775808:Int)≤(p:Int)+(1:Int)∧(p:Int)+(1:Int)≤(9223372036854775807 :
    Int))∧∃ (p':Nat),p'≤Qa book∧Qa book-p'<Qa book-p∧(True∧(p:Int)+(1:Int)=(p':Int)∧book=book∧True∧True)∧((pt.1=pt.1∧pt.2
    = pt.2∧True)∧True)∧(Qj (Hea.q02 pt) (Q7 p book)=Qj (Hea.q02 pt) (Q7 p' book)∧True)∧True∧True∧True∧True∧True∧True∧True else
    ((-9223372036854775808:Int)≤(p:Int)+(1:Int)∧(p:Int)+(1:Int)≤(9223372036854775807:Int))∧∃ (p':Nat),p'≤Qa book∧Qa book-p'<Qa
    book-p∧(True∧(p:Int)+(1:Int)=(p':Int)∧book=book∧True∧True)∧((pt.1=pt.1∧pt.2=pt.2∧True)∧True)∧(Qj (Hea.q02 pt) (Q7 p book) =
    Qj (Hea.q02 pt) (Q7 p' book)∧True)∧True∧True∧True∧True∧True∧True∧True else Qj (Hea.q02 pt) (Q7 p book)=Qj (Hea.q02 pt) book
     := by
  have hl:book.length≤1000:=h;simp only [true_and,and_true];refine ⟨⟨0,Qe _,rfl,rfl⟩,?_⟩;intro k hk;have hti:((k:Int).toNat)=k:=rfl;simp only [hti];refine bifP (λhb=>?_) λhb=>?_
  · have hlt:k<book.length:=by have:=of_decide_eq_true hb;omega
    have hfl:=QQ (Hea.q02 pt) (book.take k);rw [Qh] at hfl;have hst:=Snd.q0q book Cod.noG k hlt;have hno:Hea.q02 pt (book.getD k Cod.noG)=false→(book.take k).filter (Hea.q02 pt)=(book.take (k+1)).filter (Hea.q02 pt):=λhn=>by
      rw [hst,QW,List.filter_cons_of_neg (by rw [hn];decide),W9,List.append_nil]
    refine ⟨⟨by omega,by omega⟩,bifP (λhp=>⟨⟨by omega,by omega⟩,bifP (λhd=>?_) λhd=>?_⟩) λhp=>?_⟩
    · refine ⟨⟨by omega,by omega⟩,by rw [Qb];omega,⟨by omega,by omega⟩,k+1,hlt,by omega,by push_cast;rfl,?_⟩
      have hn:Hea.q02 pt (book.getD k Cod.noG)=true:=by
        unfold Hea.q02 Cod.ptOf;rw [hp,hd];rfl
      rw [hst,QW,List.filter_cons_of_pos hn,W9]
    · refine ⟨⟨by omega,by omega⟩,k+1,hlt,by omega,by push_cast;rfl,hno ?_⟩
      unfold Hea.q02 Cod.ptOf;rw [hd,Qn]
    · refine ⟨⟨by omega,by omega⟩,k+1,hlt,by omega,by push_cast;rfl,hno ?_⟩
      unfold Hea.q02;rw [hp];rfl
  · rw [QO (by have:=of_decide_eq_false hb;omega)]
theorem few42_vc (lang:List UInt8) (ws:List (List UInt8)) (c:CfP) (book:q0e) (text:List UInt8) (h:cFew42.pre ((lang,ws),c,book,text)) :
    (8:Int)≤(1000:Int)∧bif q6c (lang,ws) c book (8:Int) then decide ((text.length:Int)≤(100:Int))=fewH (lang,ws) c book text else false=fewH (lang,ws) c book text
     := by
  refine ⟨by omega,bifP (λhb=>?_) λhb=>?_⟩
  · unfold fewH
    rw [hb,Qx];exact decide_eq_decide.2 (by omega)
  · unfold fewH
    rw [hb];rfl
set_option maxRecDepth 100000 in
theorem head42_vc (h:cHead42.pre ()) :
    (∃ (p':Nat),p'≤(6:Nat)∧(true=true∧(0:Int)=(p':Int)∧True∧True∧True∧True∧True∧True)∧(([(101:UInt8),(110:UInt8)]=[(101:UInt8),(110:UInt8)]∧True ∧
    True)∧True)∧([[(98:UInt8),(97:UInt8),(100:UInt8)],[(98:UInt8),(97:UInt8),(110:UInt8)],[(112:UInt8),(97:UInt8),(110:UInt8)],[(115:UInt8),(101:UInt8),(97 :
    UInt8)]]=wd42∧[([(98:UInt8)],[(112:UInt8)])]=cf42∧[([(101:UInt8),(49:UInt8)],[(0:Int),(0:Int),(3:Int)],false,(0:Int),(0:Int)),([(101:UInt8),(50 :
    UInt8)],[(1:Int),(3:Int),(0:Int)],false,(0:Int),(0:Int))]=bk42∧[[(98:UInt8),(97:UInt8),(100:UInt8),(32:UInt8),(98:UInt8),(97:UInt8),(100:UInt8),(32 :
    UInt8),(115:UInt8),(101:UInt8),(97:UInt8)],[(98:UInt8),(97:UInt8),(100:UInt8),(32:UInt8),(112:UInt8),(97:UInt8),(100:UInt8),(32:UInt8),(115:UInt8),(101 :
    UInt8),(97:UInt8)],[(98:UInt8),(97:UInt8),(100:UInt8),(32:UInt8),(115:UInt8),(101:UInt8),(97:UInt8)],[(98:UInt8),(97:UInt8),(100:UInt8),(32:UInt8),(115 :
    UInt8),(101:UInt8),(97:UInt8),(32:UInt8),(98:UInt8),(97:UInt8),(100:UInt8)],[(115:UInt8),(101:UInt8),(97:UInt8),(32:UInt8),(98:UInt8),(97:UInt8),(110 :
    UInt8),(32:UInt8),(98:UInt8),(97:UInt8),(100:UInt8)],[(112:UInt8),(97:UInt8),(110:UInt8),(32:UInt8),(115:UInt8),(101:UInt8),(97:UInt8),(32:UInt8),(98 :
    UInt8),(97:UInt8),(100:UInt8)]]=q25∧[[(101:UInt8),(49:UInt8)],[(101:UInt8),(49:UInt8)],[(101:UInt8),(49:UInt8)],[(101:UInt8),(49:UInt8)],[(101:UInt8),
    (50:UInt8)],[(101:UInt8),(50:UInt8)]]=q37∧True)∧True∧True∧True∧True∧True∧True∧True)∧∀ (p:Nat),p≤(6:Nat)→bif decide ((p:Int)<(↑q25.length :
    Int)) then ((0:Int)≤(p:Int)∧(p:Int)<(q25.length:Int))∧(q0w ([(101:UInt8),(110:UInt8)],wd42)∧q0n cf42∧q6g bk42∧(q25.getD (p:Int).toNat []).length
    ≤ (1000:Nat))∧bif (Hea.q1f { lang:=[(101:UInt8),(110:UInt8)],ws:=wd42,c:=cf42 } bk42 (q25.getD (p:Int).toNat [])).2.2==(0:Int) then ((0:Int)≤(p:Int)∧(↑p
    : Int)<(q37.length:Int))∧bif (Hea.q1f { lang:=[(101:UInt8),(110:UInt8)],ws:=wd42,c:=cf42 } bk42 (q25.getD (p:Int).toNat [])).1==q37.getD (p:Int).toNat
    [] then ((-9223372036854775808:Int)≤(p:Int)+(1:Int)∧(p:Int)+(1:Int)≤(9223372036854775807:Int))∧∃ (p':Nat),p'≤(6:Nat)∧(6:Nat)-p'<(6:Nat)-p ∧
    (((Hea.q1f { lang:=[(101:UInt8),(110:UInt8)],ws:=wd42,c:=cf42 } bk42 (q25.getD (p:Int).toNat [])).2.1==decide ((0:Int)<(p:Int)))=true∧(p:Int)+(1:Int)
    = (p':Int)∧True∧True∧True∧True∧True∧True)∧(([(101:UInt8),(110:UInt8)]=[(101:UInt8),(110:UInt8)]∧True∧True)∧True)∧(wd42=wd42∧cf42=cf42∧bk42=bk42
    ∧ q25=q25∧q37=q37∧True)∧True∧True∧True∧True∧True∧True∧True else ((-9223372036854775808:Int)≤(p:Int)+(1:Int)∧(p:Int)+(1:Int) ≤
    (9223372036854775807:Int))∧∃ (p':Nat),p'≤(6:Nat)∧(6:Nat)-p'<(6:Nat)-p∧(false=true∧(p:Int)+(1:Int)=(p':Int)∧True∧True∧True∧True∧True∧True)
    ∧ (([(101:UInt8),(110:UInt8)]=[(101:UInt8),(110:UInt8)]∧True∧True)∧True)∧(wd42=wd42∧cf42=cf42∧bk42=bk42∧q25=q25∧q37=q37∧True)∧True ∧
    True∧True∧True∧True∧True∧True else ((-9223372036854775808:Int)≤(p:Int)+(1:Int)∧(p:Int)+(1:Int)≤(9223372036854775807:Int))∧∃ (p':Nat),p'≤(6:Nat) ∧
    (6:Nat)-p'<(6:Nat)-p∧(false=true∧(p:Int)+(1:Int)=(p':Int)∧True∧True∧True∧True∧True∧True)∧(([(101:UInt8),(110:UInt8)]=[(101:UInt8),(110 :
    UInt8)]∧True∧True)∧True)∧(wd42=wd42∧cf42=cf42∧bk42=bk42∧q25=q25∧q37=q37∧True)∧True∧True∧True∧True∧True∧True∧True else (q0w ([(101 :
    UInt8),(110:UInt8)],wd42)∧q0n cf42∧q6g bk42∧[(98:UInt8),(97:UInt8),(110:UInt8),(32:UInt8),(98:UInt8),(97:UInt8),(110:UInt8),(32:UInt8),(98:UInt8),(97
    : UInt8),(110:UInt8)].length≤(1000:Nat))∧(q0w ([(101:UInt8),(110:UInt8)],wd42)∧q0n cf42∧q6g bk42∧[(98:UInt8),(97:UInt8),(100:UInt8),(32:UInt8),(32 :
    UInt8),(115:UInt8),(101:UInt8),(97:UInt8)].length≤(1000:Nat))∧(q0w ([(101:UInt8),(110:UInt8)],wd42)∧q0n cf42∧q6g bk42∧[(98:UInt8),(97:UInt8),(100 :
    UInt8),(32:UInt8),(98:UInt8),(97:UInt8),(100:UInt8),(32:UInt8),(115:UInt8),(101:UInt8),(97:UInt8)].length≤(1000:Nat))∧((10:Int)==(10:Int))=true
     := by
  have hlong:q0w ([101,110],wd42)∧q0n cf42∧q6g bk42:=by
    refine ⟨⟨by decide,by decide,by decide⟩,⟨by decide,by decide⟩,by decide,by decide⟩
  simp only [true_and,and_true];refine ⟨⟨0,by omega,rfl,rfl,rfl,rfl,rfl,rfl⟩,?_⟩
  intro k hk;have hti:((k:Int).toNat)=k:=rfl;simp only [hti];have hs6:q25.length=6:=rfl;have hw6:q37.length=6:=rfl;refine bifP (λhb=>?_) λhb=>?_
  · have hlt:k<6:=by have:=of_decide_eq_true hb;omega
    have hx:Hea.q1f ⟨[101,110],wd42,cf42⟩ bk42 (q25.getD k [])=(q37.getD k [],decide ((0:Int)<(k:Int)),0):=ex_hear hlt;rw [hx];have hsl:∀ s∈q25,s.length≤1000:=by decide
    refine ⟨⟨by omega,by omega⟩,⟨hlong.1,hlong.2.1,hlong.2.2,hsl _ (Snd.q1p q25 [] k (by omega))⟩,bifP (λ_=>⟨⟨by omega,by omega⟩,bifP (λ_=>⟨⟨by omega,by omega⟩,k+1,by omega,by omega,beq_self_eq_true _,by push_cast;rfl⟩) λhf=>?_⟩) λhf=>by simp at hf⟩
    rw [beq_self_eq_true] at hf;cases hf
  · exact ⟨⟨hlong.1,hlong.2.1,hlong.2.2,by decide⟩,⟨hlong.1,hlong.2.1,hlong.2.2,by decide⟩,⟨hlong.1,hlong.2.1,hlong.2.2,by decide⟩,rfl⟩
end Go.Proofs.YtlfaaoalgcbcoaaGreatDoor
namespace Go.Proofs.YtlfaaoalgcbcoaaGreatDoor
namespace Cod
theorem tw_len {α:Type} (p:α→Bool) (d:α):∀ (l:List α) (k:Nat),k≤l.length→(l.take k).all p=true→(k=l.length∨p (l.getD k d)=false)→(l.takeWhile p).length=k
 | [],k,hk,_,_=>by simp at hk;subst hk;rfl
 | x::r,0,_,_,h=>by
  have hx:p x=false:=h.elim (λh=>by simp at h) id
  rw [QT,hx];rfl
 | x::r,k+1,hk,h,he=>by
  rw [List.take_succ_cons,Qg,Q9] at h;rw [QT,h.1,if_pos rfl,Q8,tw_len p d r k (by simp at hk;omega) h.2 (he.imp (λh=>by simp at h;omega) id)]
theorem qjq (l:List (List Int)) (x code:List Int):(putR l x code).length≤l.length+1:=by
 unfold putR;split
 ·omega
 ·rw [Ql,Ql,Qh,Qt,Qb];omega
theorem holds_nil (e:Ear) (code:List Int):q45 [] (upTo e code 0):=⟨List.Pairwise.nil,λz=>⟨λh=>(by cases h),λh=>(by obtain ⟨k,hk,_⟩:=h;exact absurd hk (QM _))⟩⟩
theorem upTo_len {e:Ear} {code z:List Int} {i:Nat} (hi:i≤code.length) (h:upTo e code i z):z.length≤code.length:=by
 obtain ⟨k,hk,hz⟩:=h;have:=qb4 (show k<code.length by omega) hz
 omega
theorem qku {e:Ear} {code z:List Int} {i k:Nat} (hi:i≤code.length) (h:q4w e code i k z):z.length≤code.length:=by
 rcases h with h | ⟨v,_,_,rfl⟩
 ·exact upTo_len hi h
 ·rw [QL];exact QC _
theorem qbk {lang:Str} {ws:List Str} {code:List Int} (h:q1l lang ws code=true):inB ws.length code=true∧code.length≤5:=by
 unfold q1l at h;simp only [Q9,decide_eq_true_eq] at h;exact ⟨h.2.2.2,by omega⟩
theorem allM_get (e:Ear) (book:List Giv) {k:Nat} (hk:k<book.length) (d:Giv):(allM e book).getD k []=q4y (e.miss (book.getD k d).2.1):=by
 unfold allM;rw [Q0,List.getElem?_map,Q4 hk,Q0,Q4 hk];rfl
theorem allM_next (e:Ear) (book:List Giv) {k:Nat} (hk:k<book.length) (d:Giv):allM e (book.take (k+1))=allM e (book.take k)++[q4y (e.miss (book.getD k d).2.1)]:=by
 unfold allM;rw [Snd.q0q book d k hk,QZ];rfl
theorem sub_len:∀ {l m:List (List Int)},l.Nodup→(∀ x∈l,x∈m)→l.length≤m.length
 | [],m,_,_=>Qe _
 | x::l,m,hn,h=>by
  obtain ⟨hx,hl⟩:=List.nodup_cons.1 hn;have hm:=h x (QU ..);have:=sub_len (m:=m.erase x) hl λy hy=>(List.mem_erase_of_ne (λe=>hx (by rw [← e];exact hy))).2 (h y (QS _ hy))
  rw [List.length_erase_of_mem hm] at this;have:=List.length_pos_of_mem hm;rw [Q8];omega
theorem up_nodup {l:List (List Int)} (h:l.Pairwise λa b=>cmpL a b<0):l.Nodup:=h.imp λh e=>by rw [e,qcl] at h;omega
theorem sortU_len (l:List (List Int)):(q4y l).length≤l.length:=sub_len (up_nodup (qk2 l)) λx hx=>qan.1 hx
theorem qje {b:Bool} (h:b≠true):false=b:=(QY b▸h:b=false).symm
end Cod
theorem miss_len' (e:Cod.Ear) (code:List Int) (hw:e.ws.length≤1000000):(e.miss code).length≤code.length*1000002:=qgy e code hw code.length
theorem long_mist {e:Cod.Ear} {code:List Int} (hc:code.length≤900) (hw:e.ws.length≤1000000):q3s (Cod.q4y (e.miss code)):=by
 refine ⟨?_,λx hx=>?_⟩
 ·have h1:=Cod.sortU_len (e.miss code)
  have h2:=miss_len' e code hw;have:=Qq 1000002 hc;omega
 ·have:=Cod.miss_len (Cod.qan.1 hx)
  omega
open Go.RowKit R
theorem hearF_no {e:Cod.Ear} {book:List Cod.Giv} {text:List UInt8} (h:(Hea.q1h text).2=false):q5d e book text=([],false,5):=by
 unfold q5d;cases hs:Hea.q5b text with
 | none=>rfl
 | some w=>rw [Hea.ql1 hs] at h;cases h
theorem hearF_yes {e:Cod.Ear} {book:List Cod.Giv} {text:List UInt8} (h:(Hea.q1h text).2=true):q5d e book text=Hea.q0l (Hea.q07 e) e.ws (Hea.q1h text).1 book []∧(Hea.q1h text).1.length≤1000000∧∀ s∈(Hea.q1h text).1,s.length≤1000000:=by
 unfold q5d;cases hs:Hea.q5b text with
 | none=>rw [Hea.saidR_none hs] at h;cases h
 | some w =>
  rw [Hea.ql1 hs];unfold Hea.q5b at hs;split at hs
  ·rename_i hc
   injection hs with hs;subst hs;rw [Q9,decide_eq_true_eq,QI] at hc;refine ⟨rfl,Qm hc.2 (by decide),λs hm=>?_⟩
   have:=hc.1 s hm
   unfold Hea.q5e at this;simp only [Q9,decide_eq_true_eq] at this;exact Qm this.2.1 (by decide)
  ·cases hs
theorem lastS_snoc (l:List (List UInt8)) (x:List UInt8):lastS (l++[x])=x:=by
 unfold lastS;rw [List.getLastD_eq_getLast?];simp
theorem hear_hearF {e:Cod.Ear} {book:List Cod.Giv} {text:List UInt8} (h:e.proper book=true):q5d e book text=Hea.q1f e book text:=by
 unfold q5d Hea.q1f;rw [h];rfl
theorem here_hearF {e:Cod.Ear} {book:List Cod.Giv} {p:Cod.Pt} {text:List UInt8} (h:e.proper book=true) (ho:Cod.onB p=true):q5d e (book.filter (Hea.q02 p)) text=Hea.q29 e book p text:=by
 unfold q5d Hea.q29;rw [h,ho];rfl
theorem qi6 {l:WlP} {c:CfP} {book:List Cod.Giv} (hb:q8n book) (h:(q04 l c).proper book=true):GoodBk l book:=⟨hb.1,λg hg=>by
 have:=(Cod.q5v.1 h).2.2.1 g hg
 unfold Cod.okG at this;simp only [Q9] at this;exact ⟨(hb.2 g hg).2,(Cod.qbk this.2.2).1⟩⟩
abbrev qht (book:List Cod.Giv) (c:CfP) (l:WlP) (p':Nat×List (List UInt8)) (text:List UInt8):Prop :=
 (p'.1≤book.length∧p'.2.length≤p'.1∧Hea.q0l (Hea.q07 (q04 l c)) l.2 (Hea.q1h text).1 book []=Hea.q0l (Hea.q07 (q04 l c)) l.2 (Hea.q1h text).1 (Qc p'.1 book) p'.2)
set_option maxRecDepth 100000 in
theorem qHr_vc (l:WlP) (c:CfP) (book:List Cod.Giv) (text:List UInt8) (h:cQHr.pre (l,c,book,text)) :
  True∧bif !(Hea.q1h text).2 then ([],false,(5:Int))=q5d (q04 l c) book text else (∃ (p':Nat×List (List UInt8)),(qht book c l p' text)∧([]=lastS p'.2∧(0:Int)=(p'.2.length:Int)∧(0:Int)=(p'.1:Int)∧c=c∧zE book∧True∧zE ((Hea.q1h text).1)∧True)∧((zE l.1∧zE l.2∧True)∧True)∧zT8)∧∀ (p:Nat×List (List UInt8)),p.1≤book.length∧p.2.length≤p.1∧Hea.q0l (Hea.q07 (q04 l c)) l.2 (Hea.q1h text).1 book []=Hea.q0l (Hea.q07 (q04 l c)) l.2 (Hea.q1h text).1 (Qc p.1 book) p.2→bif decide ((p.1:Int)<(book.length:Int)) then (0≤(p.1:Int)∧(p.1:Int)<(book.length:Int))∧((book.getD (p.1:Int).toNat ([],[],false,(0:Int),(0:Int))).2.1.length≤(1000000:Nat)∧Cod.inB l.2.length (book.getD (p.1:Int).toNat ([],[],false,(0:Int),(0:Int))).2.1=true)∧bif Hea.ownW l.2 (book.getD (p.1:Int).toNat ([],[],false,(0:Int),(0:Int))).2.1==(Hea.q1h text).1 then (0≤(p.1:Int)∧(p.1:Int)<(book.length:Int))∧((book.getD (p.1:Int).toNat ([],[],false,(0:Int),(0:Int))).1,false,(0:Int))=q5d (q04 l c) book text else (0≤(p.1:Int)∧(p.1:Int)<(book.length:Int))∧(q0w l∧q0n c∧(book.getD (p.1:Int).toNat ([],[],false,(0:Int),(0:Int))).2.1.length≤(1000000:Nat)∧Cod.inB l.2.length (book.getD (p.1:Int).toNat ([],[],false,(0:Int),(0:Int))).2.1=true∧(Hea.q1h text).1.length≤(1000000:Nat)∧∀ (s:List UInt8),s∈(Hea.q1h text).1→s.length≤(1000000:Nat))∧bif Hea.misR (Snd.q0m c) (Hea.ownW l.2 (book.getD (p.1:Int).toNat ([],[],false,(0:Int),(0:Int))).2.1) (Hea.q1h text).1 then (0≤(p.1:Int)∧(p.1:Int)<(book.length:Int))∧(zFit ((p.2.length:Int)+1))∧(zFit ((p.1:Int)+1))∧∃ (p':Nat×List (List UInt8)),(qht book c l p' text)∧book.length-p'.1<book.length-p.1∧((book.getD (p.1:Int).toNat ([],[],false,(0:Int),(0:Int))).1=lastS p'.2∧(p.2.length:Int)+1=(p'.2.length:Int)∧(p.1:Int)+1=(p'.1:Int)∧c=c∧zE book∧True∧zE ((Hea.q1h text).1)∧True)∧((zE l.1∧zE l.2∧True)∧True)∧zT8 else (zFit ((p.1:Int)+1))∧∃ (p':Nat×List (List UInt8)),(qht book c l p' text)∧book.length-p'.1<book.length-p.1∧(lastS p.2=lastS p'.2∧(p.2.length:Int)=(p'.2.length:Int)∧(p.1:Int)+1=(p'.1:Int)∧c=c∧zE book∧True∧zE ((Hea.q1h text).1)∧True)∧((zE l.1∧zE l.2∧True)∧True)∧zT8 else bif (p.2.length:Int)==(0:Int) then ([],false,(10:Int))=q5d (q04 l c) book text else bif decide (1<(p.2.length:Int)) then ([],false,(8:Int))=q5d (q04 l c) book text else (lastS p.2,true,(0:Int))=q5d (q04 l c) book text:=by
 delta qht zFit zE zT8
 obtain ⟨⟨hW,hC,hws⟩,hbl,hb⟩:(q0w l∧q0n c∧Qa l.2≤1000)∧book.length≤1000∧∀ g∈book,g.2.1.length≤1000∧Cod.inB l.2.length g.2.1=true:=h;simp only [true_and,and_true,eq_self,and_self];refine bifP (λc1=>(hearF_no (cast (Qi _) c1)).symm) λc1=>?_
 obtain ⟨hF,hs1,hs2⟩:=hearF_yes (e:=q04 l c) (book:=book) (cast (Qd _) c1);rw [hF];generalize (Hea.q1h text).1=words at hs1 hs2 ⊢;refine ⟨⟨(0,[]),⟨Qe _,QC _,rfl⟩,rfl,rfl,rfl⟩,?_⟩;rintro ⟨k,ds⟩ ⟨hk,hd,hfind⟩;dsimp only at hk hd hfind ⊢;rw [hfind];refine bifP (λhb2=>?_) λhb2=>?_
 ·have hkl:k<book.length:=by have:=of_decide_eq_true hb2;omega
  simp only [Qf];have hm:book.getD k giv0∈book:=by
   rw [Q0,Q4 hkl];exact Qk hkl
  obtain ⟨hg1,hg2⟩:=hb _ hm;have hdrop:book.drop k=book.getD k giv0::book.drop (k+1):=by
   rw [QH hkl,Q0,Q4 hkl];rfl
  rw [hdrop,Hea.q0l];refine ⟨by omega,⟨Qm hg1 (by decide),hg2⟩,bifP (λc2=>⟨by omega,?_⟩) λc2=>⟨by omega,⟨hW,hC,Qm hg1 (by decide),hg2,hs1,hs2⟩,bifP (λc3=>⟨by omega,by omega,by omega,(k+1,ds++[(book.getD k giv0).1]),⟨hkl,?_,?_⟩,by dsimp only;omega,(lastS_snoc _ _).symm,?_,by dsimp only;omega⟩) λc3=>⟨by omega,(k+1,ds),⟨hkl,by dsimp only;omega,?_⟩,by dsimp only;omega,rfl,rfl,by dsimp only;omega⟩⟩⟩
  ·rw [if_pos (show (Hea.ownW l.2 (book.getD k giv0).2.1==words)=true from c2)]
  ·dsimp only;rw [Ql,Qb];omega
  ·have hne:Hea.ownW l.2 (book.getD k giv0).2.1≠words:=λe=>by rw [show (Hea.ownW l.2 (book.getD k giv0).2.1==words)=true from beq_iff_eq.2 e] at c2;cases c2
   have hmi:=(Hea.mis_iff (al:=Snd.q0m c) hne).1 c3;rw [if_neg (show ¬ (Hea.ownW l.2 (book.getD k giv0).2.1==words)=true from by rw [show (Hea.ownW l.2 (book.getD k giv0).2.1==words)=false from c2];decide),if_pos (show Hea.qa9 (Hea.q07 (q04 l c)) (Hea.ownW l.2 (book.getD k giv0).2.1) words=true from hmi)]
  ·dsimp only;rw [Ql,Qb];omega
  ·have hne:Hea.ownW l.2 (book.getD k giv0).2.1≠words:=λe=>by rw [show (Hea.ownW l.2 (book.getD k giv0).2.1==words)=true from beq_iff_eq.2 e] at c2;cases c2
   rw [if_neg (show ¬ (Hea.ownW l.2 (book.getD k giv0).2.1==words)=true from by rw [show (Hea.ownW l.2 (book.getD k giv0).2.1==words)=false from c2];decide),if_neg (λh'=>by
    have:=(Hea.mis_iff (al:=Snd.q0m c) hne).2 h'
    rw [show Hea.misR (Snd.q0m c) (Hea.ownW l.2 (book.getD k giv0).2.1) words=false from c3] at this;cases this)]
 ·have:k=book.length:=by have:=of_decide_eq_false hb2;omega
  subst this;rw [List.drop_length];refine bifP (λc2=>?_) λc2=>bifP (λc3=>?_) λc3=>?_
  ·cases ds with
   | nil=>rfl
   | cons a r=>simp at c2;omega
  ·match ds with
   | []=>simp at c3
   | [a]=>simp at c3
   | a::b::r=>rfl
  ·match ds with
   | []=>simp at c2
   | [a]=>rfl
   | a::b::r=>simp only [Q8,decide_eq_false_iff_not] at c3;omega
set_option maxRecDepth 100000 in
theorem qHear_vc (l:WlP) (c:CfP) (book:List Cod.Giv) (text:List UInt8) (h:cQHear.pre (l,c,book,text)) :
    (q3i l c∧q8n book)∧bif !(q04 l c).proper book then ([],false,(1:Int))=Hea.q1f (q04 l c) book text else (q3i l c∧GoodBk l book)∧q5d (q04 l c) book text =
    Hea.q1f (q04 l c) book text
     := by
  obtain ⟨hE,hB⟩:q3i l c∧q8n book:=h
  try simp only [true_and,and_true,eq_self,and_self]
  refine ⟨⟨hE,hB⟩,bifP (λc1=>?_) λc1=>?_⟩
  · unfold Hea.q1f;rw [if_pos c1]
  · have hp:=cast (Qd _) c1
    exact ⟨⟨hE,qi6 hB hp⟩,hear_hearF hp⟩
set_option maxRecDepth 100000 in
theorem qHere_vc (l:WlP) (c:CfP) (book:List Cod.Giv) (x y:Int) (text:List UInt8) (h:cQHere.pre (l,c,book,(x,y),text)) :
    (q3i l c∧q8n book)∧bif !(q04 l c).proper book then ([],false,(1:Int))=Hea.q29 (q04 l c) book (x,y) text else True∧bif !Cod.onB (x,y) then ([],false,(1:Int)) =
    Hea.q29 (q04 l c) book (x,y) text else book.length≤(1000:Nat)∧(q3i l c∧GoodBk l (Qj (Hea.q02 (x,y)) book))∧q5d (q04 l c) (Qj (Hea.q02 (x,y))
    book) text=Hea.q29 (q04 l c) book (x,y) text
     := by
  obtain ⟨hE,hB⟩:q3i l c∧q8n book:=h
  try simp only [true_and,and_true,eq_self,and_self]
  refine ⟨⟨hE,hB⟩,bifP (λc1=>?_) λc1=>bifP (λc2=>?_) λc2=>?_⟩
  · unfold Hea.q29;rw [cast (Qi _) c1];rfl
  · unfold Hea.q29;rw [cast (Qi _) c2,Qn];rfl
  · have hp:=cast (Qd _) c1
    have hg:=qi6 hB hp;exact ⟨hB.1,⟨hE,Qm (QQ _ _) hB.1,λg hm=>hg.2 g (List.mem_filter.1 hm).1⟩,here_hearF hp (cast (Qd _) c2)⟩
set_option maxRecDepth 100000 in
theorem lhm_vc (l:WlP) (c:CfP) (book:List Cod.Giv) (x y:Int) (text:List UInt8) (h:cLHm.pre (l,c,book,(x,y),text)) :
    True∧True∧bif !fewH l c book text then true=true else (q0w l∧q0n c∧q6g book∧text.length≤(1000:Nat))∧(q3i l c∧q8n book)∧(q0w l∧q0n c∧q6g book ∧
    text.length≤(1000:Nat))∧(q3i l c∧q8n book)∧bif (Hea.q1f (q04 l c) book text).1==(Hea.q1f (q04 l c) book text).1 then bif (Hea.q1f (q04 l c) book text).2.1==(Hea.q1f (q04 l c) book text).2.1 then bif (Hea.q1f (q04 l c) book text).2.2==(Hea.q1f (q04 l c) book
    text).2.2 then bif (Hea.q29 (q04 l c) book (x,y) text).1==(Hea.q29 (q04 l c) book (x,y) text).1 then bif (Hea.q29 (q04 l c) book
    (x,y) text).2.1==(Hea.q29 (q04 l c) book (x,y) text).2.1 then ((Hea.q29 (q04 l c) book (x,y) text).2.2==(Hea.q29 (q04 l c) book (x,y) text).2.2) =
    true else false=true else false=true else false=true else false=true else false=true
     := by
  refine ⟨trivial,trivial,bifP (λ_=>rfl) λhf=>?_⟩
  have hf:=cast (Qd _) hf;unfold fewH at hf;rw [Q9,decide_eq_true_eq] at hf;obtain ⟨l1,l2⟩:=l;obtain ⟨hW,hC,hbk,hlen,hws⟩:=few_out41 hf.1;have hB:q8n book:=⟨by omega,λg hg=>by have:=hbk g hg;omega⟩
  have hE:q3i (l1,l2) c:=⟨hW,hC,by show l2.length≤1000;omega⟩
  have hL:q6g book:=longB_of hbk hlen (by decide)
  have ht:text.length≤1000:=by omega
  simp only [beq_self_eq_true,cond_true,and_true,true_and];exact ⟨⟨hW,hC,hL,ht⟩,⟨hE,hB⟩,⟨hW,hC,hL,ht⟩,hE,hB⟩
set_option maxRecDepth 100000 in
theorem qValid_vc (l:WlP) (code:List Int) (h:cQValid.pre (l,code)) :
    (∃ (p':Nat),(p'≤code.length∧Cod.inB l.2.length (Q7 p' code)=true)∧((0:Int)=(p':Int)∧code=code∧True∧True)∧((l.1=l.1∧l.2=l.2∧True)∧True)∧True ∧
    True∧True∧True∧True∧True∧True∧True)∧∀ (p:Nat),p≤code.length∧Cod.inB l.2.length (Q7 p code)=true→bif decide ((p:Int)<(code.length:Int)) then ((0:Int)
    ≤ (p:Int)∧(p:Int)<(code.length:Int))∧bif decide (code.getD (p:Int).toNat (0:Int)<(0:Int)) then false=Cod.q1l l.1 l.2 code else ((0:Int)≤(p:Int)∧(↑p :
    Int)<(code.length:Int))∧bif decide ((l.2.length:Int)≤code.getD (p:Int).toNat (0:Int)) then false=Cod.q1l l.1 l.2 code else ((-9223372036854775808:Int)≤(p:Int) +
    (1:Int)∧(p:Int)+(1:Int)≤(9223372036854775807:Int))∧∃ (p':Nat),(p'≤code.length∧Cod.inB l.2.length (Q7 p' code)=true)∧code.length-p'<code.length-p ∧
    ((p:Int)+(1:Int)=(p':Int)∧code=code∧True∧True)∧((l.1=l.1∧l.2=l.2∧True)∧True)∧True∧True∧True∧True∧True∧True∧True∧True else q0w l∧bif
    Snd.q0k l.1 l.2 then bif decide ((3:Int)≤(code.length:Int)) then decide ((code.length:Int)≤(5:Int))=Cod.q1l l.1 l.2 code else false=Cod.q1l l.1 l.2 code else false =
    Cod.q1l l.1 l.2 code
     := by
  obtain ⟨hW,hl⟩:q0w l∧code.length≤1000000:=h;simp only [true_and,and_true,eq_self,and_self];have hF:Cod.q1l l.1 l.2 code=(Snd.q0k l.1 l.2&&(decide (3≤(code.length:Int))&&(decide ((code.length:Int)≤5)&&Cod.inB l.2.length code))):=rfl;refine ⟨⟨0,⟨Qe _,rfl⟩,rfl⟩,?_⟩;rintro k ⟨hk,hi⟩;refine bifP (λhb=>?_) λhb=>?_
  · have hkl:k<code.length:=by have:=of_decide_eq_true hb;omega
    simp only [Qf];have hno:¬ (0≤code.getD k 0∧code.getD k 0<(l.2.length:Int))→false=Cod.q1l l.1 l.2 code:=λhn=>Cod.qje λht=>hn (Cod.qe7 (Cod.qbk ht).1 hkl)
    refine ⟨by omega,bifP (λc1=>hno ?_) λc1=>⟨by omega,bifP (λc2=>hno ?_) λc2=>⟨by omega,k+1,⟨by omega,?_⟩,by omega,by omega⟩⟩⟩
    · have:=of_decide_eq_true c1;omega
    · have:=of_decide_eq_true c2;omega
    · unfold Cod.inB at hi ⊢
      rw [Snd.q0q code 0 k hkl,QN,hi,Qg,QA];have h1:=of_decide_eq_false c1;have h2:=of_decide_eq_false c2;rw [decide_eq_true (show 0≤code.getD k 0 by omega),decide_eq_true (show code.getD k 0<(l.2.length:Int) by omega)];rfl
  · have:k=code.length:=by have:=of_decide_eq_false hb;omega
    subst this;rw [Qo] at hi;rw [hF,hi,QF];refine ⟨hW,bifP (λc1=>bifP (λc2=>?_) λc2=>?_) λc1=>?_⟩
    · rw [c1,c2];rfl
    · rw [c2,QR,Qn]
    · rw [c1];rfl
set_option maxRecDepth 100000 in
theorem qIn_vc (l:List (List Int)) (x:List Int) (h:cQIn.pre (l,x)) :
    (∃ (p':Nat),(p'≤l.length∧((Q7 p' l).any λ(y:List Int)=>y==x)=false)∧((0:Int)=(p':Int)∧l=l∧x=x∧True)∧True∧True∧True∧True∧True∧True ∧
    True∧True∧True)∧∀ (p:Nat),p≤l.length∧((Q7 p l).any λ(y:List Int)=>y==x)=false→bif decide ((p:Int)<(l.length:Int)) then ((0:Int)≤(p:Int)∧(↑p
    : Int)<(l.length:Int))∧(l.getD (p:Int).toNat []).length≤(1000000000000000:Nat)∧bif l.getD (p:Int).toNat []==x then true=l.any λ(y:List Int)=>y==x else
    ((-9223372036854775808:Int)≤(p:Int)+(1:Int)∧(p:Int)+(1:Int)≤(9223372036854775807:Int))∧∃ (p':Nat),(p'≤l.length∧((Q7 p' l).any λ(y:List Int)=>y
    == x)=false)∧l.length-p'<l.length-p∧((p:Int)+(1:Int)=(p':Int)∧l=l∧x=x∧True)∧True∧True∧True∧True∧True∧True∧True∧True∧True else false =
    l.any λ(y:List Int)=>y==x
     := by
  obtain ⟨hl,hx⟩:l.length≤1000000000∧∀ y∈l,y.length≤1000000:=h;simp only [true_and,and_true,eq_self,and_self];refine ⟨⟨0,⟨Qe _,rfl⟩,rfl⟩,?_⟩;rintro k ⟨hk,hi⟩;refine bifP (λhb=>?_) λhb=>?_
  · have hkl:k<l.length:=by have:=of_decide_eq_true hb;omega
    simp only [Qf];have hm:l.getD k []∈l:=by
      rw [Q0,Q4 hkl];exact Qk hkl
    refine ⟨by omega,Qm (hx _ hm) (by decide),bifP (λc1=>?_) λc1=>⟨by omega,k+1,⟨by omega,?_⟩,by omega,by omega⟩⟩
    · exact (Qs.2 ⟨_,hm,c1⟩).symm
    · rw [Snd.q0q l [] k hkl,List.any_append,hi,List.any_cons,List.any_nil,Bool.or_false];exact c1
  · have:k=l.length:=by have:=of_decide_eq_false hb;omega
    subst this;rw [Qo] at hi;exact hi.symm
set_option maxRecDepth 100000 in
theorem qPut_vc (l:List (List Int)) (x code:List Int) (h:cQPut.pre (l,x,code)) :
    x.length≤(1000000000000000:Nat)∧bif x==code then l=Cod.putR l x code else q3s l∧bif l.any λ(y:List Int)=>y==x then l=Cod.putR l x code else (∃ (p':Nat),(p' ≤
    l.length∧((Q7 p' l).all λ(y:List Int)=>Cod.q3h y x)=true)∧((0:Int)=(p':Int)∧l=l∧x=x∧code=code∧True)∧True∧True∧True∧True∧True∧True ∧
    True∧True∧True)∧∀ (p:Nat),p≤l.length∧((Q7 p l).all λ(y:List Int)=>Cod.q3h y x)=true→bif decide ((p:Int)<(l.length:Int)) then ((0:Int)≤(p:Int)
    ∧ (p:Int)<(l.length:Int))∧(l.getD (p:Int).toNat []).length≤(1000000000000000:Nat)∧bif Cod.q3h (l.getD (p:Int).toNat []) x then ((-9223372036854775808:Int)≤(↑p :
    Int)+(1:Int)∧(p:Int)+(1:Int)≤(9223372036854775807:Int))∧∃ (p':Nat),(p'≤l.length∧((Q7 p' l).all λ(y:List Int)=>Cod.q3h y x)=true)∧l.length-p' <
    l.length-p∧((p:Int)+(1:Int)=(p':Int)∧l=l∧x=x∧code=code∧True)∧True∧True∧True∧True∧True∧True∧True∧True∧True else ((0:Int)≤(0:Int)∧(0 :
    Int)≤(p:Int)∧(p:Int)≤(l.length:Int))∧(([]:List (List Int)).length+(Qc (Qp (0:Int)) (Q7 (p:Int).toNat l)).length)*(24:Nat)≤(140737488355328:Nat)∧(([] ++
    Qc (Qp (0:Int)) (Q7 (p:Int).toNat l)).length+[x].length)*(24:Nat)≤(140737488355328:Nat)∧((0:Int)≤(p:Int)∧(p:Int)≤(l.length:Int) ∧
    (l.length:Int)≤(l.length:Int))∧(([]++Qc (Qp (0:Int)) (Q7 (p:Int).toNat l)++[x]).length+(Qc (p:Int).toNat (Q7 (↑l.length :
    Int).toNat l)).length)*(24:Nat)≤(140737488355328:Nat)∧[]++Qc (Qp (0:Int)) (Q7 (p:Int).toNat l)++[x]++Qc (p:Int).toNat (Q7
    (l.length:Int).toNat l)=Cod.putR l x code else ((0:Int)≤(0:Int)∧(0:Int)≤(p:Int)∧(p:Int)≤(l.length:Int))∧(([]:List (List Int)).length+(Qc (Qp (0:Int))
    (Q7 (p:Int).toNat l)).length)*(24:Nat)≤(140737488355328:Nat)∧(([]++Qc (Qp (0:Int)) (Q7 (p:Int).toNat l)).length+[x].length)*(24:Nat) ≤
    (140737488355328:Nat)∧((0:Int)≤(p:Int)∧(p:Int)≤(l.length:Int)∧(l.length:Int)≤(l.length:Int))∧(([]++Qc (Qp (0:Int)) (Q7 (↑p :
    Int).toNat l)++[x]).length+(Qc (p:Int).toNat (Q7 (l.length:Int).toNat l)).length)*(24:Nat)≤(140737488355328:Nat)∧[]++Qc (Qp (0:Int))
    (Q7 (p:Int).toNat l)++[x]++Qc (p:Int).toNat (Q7 (l.length:Int).toNat l)=Cod.putR l x code
     := by
  obtain ⟨⟨hl,hx⟩,hx1⟩:(l.length≤1000000000∧∀ y∈l,y.length≤1000000)∧x.length≤1000000:=h;simp only [true_and,and_true,eq_self,and_self,Wd,Qy,Int.toNat_zero,Wh,Nat.zero_add,Qb,Qf,Qo];refine ⟨by omega,bifP (λc1=>?_) λc1=>⟨⟨hl,hx⟩,bifP (λc2=>?_) λc2=>⟨⟨0,⟨Qe _,rfl⟩,rfl⟩,?_⟩⟩⟩
  · unfold Cod.putR;rw [c1,QJ,if_pos rfl]
  · unfold Cod.putR;rw [c2,Qu,if_pos rfl]
  rintro k ⟨hk,ha⟩;have fin:k=l.length∨Cod.q3h (l.getD k []) x=false→l.take k++[x]++l.drop k=Cod.putR l x code:=λhe=>by
    unfold Cod.putR;rw [c1,c2,Bool.false_or,if_neg (by decide),Cod.tw_len (λy=>Cod.q3h y x) [] l k hk ha he]
  have h1:=List.length_take_le' k l;refine bifP (λhb=>?_) λhb=>?_
  · have hkl:k<l.length:=by have:=of_decide_eq_true hb;omega
    have hm:l.getD k []∈l:=by
      rw [Q0,Q4 hkl];exact Qk hkl
    refine ⟨by omega,Qm (hx _ hm) (by decide),bifP (λc3=>⟨by omega,k+1,⟨by omega,?_⟩,by omega,by omega⟩) λc3=>⟨by omega,?_,?_,by omega,?_,fin (.inr c3)⟩⟩
    · rw [Snd.q0q l [] k hkl,QN,ha,Qg,QA,QF];exact c3
    all_goals simp only [Ql,Qh,Qt,Qb];omega
  · have hke:k=l.length:=by have:=of_decide_eq_false hb;omega
    refine ⟨by omega,?_,?_,by omega,?_,fin (.inl hke)⟩
    all_goals simp only [Ql,Qh,Qt,Qb];omega
set_option maxRecDepth 100000 in
theorem qMis_vc (l:WlP) (c:CfP) (code:List Int) (h:cQMis.pre (l,c,code)) :
    (∃ (p':Nat×List (List Int)),(p'.1≤code.length∧p'.2.length≤p'.1*(1002:Nat)∧Cod.q45 p'.2 (Cod.upTo (q04 l c) code p'.1))∧([]=p'.2∧(0:Int)=(p'.1:Int)∧c=c
    ∧ code=code∧True∧True)∧((l.1=l.1∧l.2=l.2∧True)∧True)∧True∧True∧True∧True∧True∧True∧True∧True)∧∀ (p:Nat×List (List Int)),p.1≤code.length ∧
    p.2.length≤p.1*(1002:Nat)∧Cod.q45 p.2 (Cod.upTo (q04 l c) code p.1)→bif decide ((p.1:Int)<(code.length:Int)) then ((0:Int)≤(p.1:Int)∧(p.1:Int) <
    (code.length:Int))∧((0:Int)≤code.getD (p.1:Int).toNat (0:Int)∧code.getD (p.1:Int).toNat (0:Int)<(l.2.length:Int))∧(q0w l∧q0n c∧(l.2.getD (code.getD (↑p.1
    : Int).toNat (0:Int)).toNat []).length≤(1000000:Nat))∧(∃ (p':Nat×List (List Int)),(p'.1≤((q04 l c).near (code.getD (p.1:Int).toNat (0:Int))).length∧p'.2.length ≤
    (p.1:Int).toNat*(1002:Nat)+p'.1∧Cod.q45 p'.2 (Cod.q4w (q04 l c) code (p.1:Int).toNat p'.1))∧(p.2=p'.2∧(0:Int)=(p'.1:Int)∧c=c∧code=code∧True ∧
    (p.1:Int)=(p.1:Int)∧(Snd.q19 l.1 l.2 c (l.2.getD (code.getD (p.1:Int).toNat (0:Int)).toNat [])).1=(Snd.q19 l.1 l.2 c (l.2.getD (code.getD (p.1:Int).toNat (0 :
    Int)).toNat [])).1∧(Snd.q19 l.1 l.2 c (l.2.getD (code.getD (p.1:Int).toNat (0:Int)).toNat [])).2=(Snd.q19 l.1 l.2 c (l.2.getD (code.getD (p.1:Int).toNat (0:Int)).toNat
    [])).2∧True)∧((l.1=l.1∧l.2=l.2∧True)∧True)∧True∧True∧True∧True∧True∧True∧True∧True)∧∀ (p_1:Nat×List (List Int)),p_1.1≤((q04 l c).near (code.getD
    (p.1:Int).toNat (0:Int))).length∧p_1.2.length≤(p.1:Int).toNat*(1002:Nat)+p_1.1∧Cod.q45 p_1.2 (Cod.q4w (q04 l c) code (p.1:Int).toNat p_1.1)→bif decide
    ((p_1.1:Int)<(↑(Snd.q19 l.1 l.2 c (l.2.getD (code.getD (p.1:Int).toNat (0:Int)).toNat [])).1.length:Int)) then (([]:List Int).length+code.length)*(8:Nat)≤(140737488355328:Nat) ∧
    ((0:Int)≤(p_1.1:Int)∧(p_1.1:Int)<(↑(Snd.q19 l.1 l.2 c (l.2.getD (code.getD (p.1:Int).toNat (0:Int)).toNat [])).1.length:Int))∧((0:Int)≤(p.1:Int)∧(↑p.1 :
    Int)<(↑([]++code).length:Int))∧bif (p.1:Int).toNat.beq (p.1:Int).toNat then (q3s p_1.2∧(([]++code).set (p.1:Int).toNat ((Snd.q19 l.1 l.2 c (l.2.getD (code.getD (↑p.1
    : Int).toNat (0:Int)).toNat [])).1.getD (p_1.1:Int).toNat (0:Int))).length≤(1000000:Nat))∧((-9223372036854775808:Int)≤(p_1.1:Int)+(1:Int)∧(p_1.1:Int)+(1:Int)
    ≤ (9223372036854775807:Int))∧∃ (p':Nat×List (List Int)),(p'.1≤((q04 l c).near (code.getD (p.1:Int).toNat (0:Int))).length∧p'.2.length≤(p.1:Int).toNat*(1002:Nat)
    + p'.1∧Cod.q45 p'.2 (Cod.q4w (q04 l c) code (p.1:Int).toNat p'.1))∧((q04 l c).near (code.getD (p.1:Int).toNat (0:Int))).length-p'.1<((q04 l c).near (code.getD
    (p.1:Int).toNat (0:Int))).length-p_1.1∧(Cod.putR p_1.2 (([]++code).set (p.1:Int).toNat ((Snd.q19 l.1 l.2 c (l.2.getD (code.getD (p.1:Int).toNat (0:Int)).toNat
    [])).1.getD (p_1.1:Int).toNat (0:Int))) code=p'.2∧(p_1.1:Int)+(1:Int)=(p'.1:Int)∧c=c∧code=code∧True∧(p.1:Int)=(p.1:Int)∧(Snd.q19 l.1 l.2 c
    (l.2.getD (code.getD (p.1:Int).toNat (0:Int)).toNat [])).1=(Snd.q19 l.1 l.2 c (l.2.getD (code.getD (p.1:Int).toNat (0:Int)).toNat [])).1∧(Snd.q19 l.1 l.2 c (l.2.getD
    (code.getD (p.1:Int).toNat (0:Int)).toNat [])).2=(Snd.q19 l.1 l.2 c (l.2.getD (code.getD (p.1:Int).toNat (0:Int)).toNat [])).2∧True)∧((l.1=l.1∧l.2=l.2∧True)∧True)
    ∧ True∧True∧True∧True∧True∧True∧True∧True else False else (((0:Int)≤(0:Int)∧(0:Int)≤(p.1:Int)∧(p.1:Int)≤(code.length:Int))∧((-9223372036854775808 :
    Int)≤(p.1:Int)+(1:Int)∧(p.1:Int)+(1:Int)≤(9223372036854775807:Int))∧((0:Int)≤(p.1:Int)+(1:Int)∧(p.1:Int)+(1:Int)≤(code.length:Int) ∧
    (code.length:Int)≤(code.length:Int))∧(([]:List Int).length+(Qc (Qp (0:Int)) (Q7 (p.1:Int).toNat code)).length)*(8:Nat)≤(140737488355328:Nat)∧(([] ++
    Qc (Qp (0:Int)) (Q7 (p.1:Int).toNat code)).length+(Qc ((p.1:Int)+(1:Int)).toNat (Q7 (code.length:Int).toNat code)).length)*(8:Nat) ≤
    (140737488355328:Nat)∧(q3s p_1.2∧([]++Qc (Qp (0:Int)) (Q7 (p.1:Int).toNat code)++Qc ((p.1:Int)+(1:Int)).toNat (Q7 (↑code.length :
    Int).toNat code)).length≤(1000000:Nat))∧∃ (p':List (List Int)),p'=Cod.putR p_1.2 (Q7 (p.1:Int).toNat code++Qc ((p.1:Int).toNat+(1:Nat)) code) code ∧
    (Cod.putR p_1.2 ([]++Qc (Qp (0:Int)) (Q7 (p.1:Int).toNat code)++Qc ((p.1:Int)+(1:Int)).toNat (Q7 (code.length:Int).toNat code)) code =
    p'∧c=c∧code=code∧True∧(p.1:Int)=(p.1:Int)∧True)∧((l.1=l.1∧l.2=l.2∧True)∧True)∧True∧True∧True∧True∧True∧True∧True∧True)∧∀ (p_2:List (List
    Int)),p_2=Cod.putR p_1.2 (Q7 (p.1:Int).toNat code++Qc ((p.1:Int).toNat+(1:Nat)) code) code→bif decide ((0:Int)<(p.1:Int)) then (([]:List Int).length+code.length)
    * (8:Nat)≤(140737488355328:Nat)∧((-9223372036854775808:Int)≤(p.1:Int)-(1:Int)∧(p.1:Int)-(1:Int)≤(9223372036854775807:Int))∧((0:Int)≤(p.1:Int)∧(↑p.1
    : Int)<(code.length:Int))∧((0:Int)≤(p.1:Int)-(1:Int)∧(p.1:Int)-(1:Int)<(↑([]++code).length:Int))∧bif ((p.1:Int)-(1:Int)).toNat.beq ((p.1:Int) -
    (1:Int)).toNat then ((-9223372036854775808:Int)≤(p.1:Int)-(1:Int)∧(p.1:Int)-(1:Int)≤(9223372036854775807:Int))∧((0:Int)≤(p.1:Int)-(1:Int)∧(↑p.1 :
    Int)-(1:Int)<(code.length:Int))∧((0:Int)≤(p.1:Int)∧(p.1:Int)<(↑(([]++code).set ((p.1:Int)-(1:Int)).toNat (code.getD (p.1:Int).toNat (0:Int))).length :
    Int))∧bif (p.1:Int).toNat.beq (p.1:Int).toNat then (q3s p_2∧((([]++code).set ((p.1:Int)-(1:Int)).toNat (code.getD (p.1:Int).toNat (0:Int))).set (p.1:Int).toNat
    (code.getD ((p.1:Int)-(1:Int)).toNat (0:Int))).length≤(1000000:Nat))∧((-9223372036854775808:Int)≤(p.1:Int)+(1:Int)∧(p.1:Int)+(1:Int)≤(9223372036854775807
    : Int))∧∃ (p':Nat×List (List Int)),(p'.1≤code.length∧p'.2.length≤p'.1*(1002:Nat)∧Cod.q45 p'.2 (Cod.upTo (q04 l c) code p'.1))∧code.length-p'.1<code.length-p.1
    ∧ (Cod.putR p_2 ((([]++code).set ((p.1:Int)-(1:Int)).toNat (code.getD (p.1:Int).toNat (0:Int))).set (p.1:Int).toNat (code.getD ((p.1:Int)-(1:Int)).toNat (0:Int)))
    code=p'.2∧(p.1:Int)+(1:Int)=(p'.1:Int)∧c=c∧code=code∧True∧True)∧((l.1=l.1∧l.2=l.2∧True)∧True)∧True∧True∧True∧True∧True∧True∧True∧True
    else False else False else ((-9223372036854775808:Int)≤(p.1:Int)+(1:Int)∧(p.1:Int)+(1:Int)≤(9223372036854775807:Int))∧∃ (p':Nat×List (List Int)),(p'.1 ≤
    code.length∧p'.2.length≤p'.1*(1002:Nat)∧Cod.q45 p'.2 (Cod.upTo (q04 l c) code p'.1))∧code.length-p'.1<code.length-p.1∧(p_2=p'.2∧(p.1:Int)+(1:Int)=(↑p'.1
    : Int)∧c=c∧code=code∧True∧True)∧((l.1=l.1∧l.2=l.2∧True)∧True)∧True∧True∧True∧True∧True∧True∧True∧True else p.2=Cod.q4y ((q04 l c).miss code)
     := by
  obtain ⟨⟨hW,hC,hws⟩,hlen,hin⟩:(q0w l∧q0n c∧Qa l.2≤1000)∧code.length≤1000∧Cod.inB l.2.length code=true:=h;have hnear:∀ i,(Snd.q19 l.1 l.2 c (l.2.getD (code.getD i 0).toNat [])).1=(q04 l c).near (code.getD i 0):=λ_=>rfl
  have hlong:∀ (m:List (List Int)) (S:List Int→Prop),Cod.q45 m S→(∀ z,S z→z.length≤code.length)→m.length≤2000000→q3s m:=λm S hm hS hl=>⟨by omega,λz hz=>by
    have:=hS z ((hm.2 z).1 hz);omega⟩
  simp only [true_and,and_true,eq_self,and_self,Wd,Qy,Int.toNat_zero,Wh,Nat.zero_add,Qf,Qo,hnear,Nat.beq_refl,cond_true,QL];refine ⟨⟨(0,[]),⟨Qe _,Qe _,Cod.holds_nil _ _⟩,rfl,rfl⟩,?_⟩;rintro ⟨i,o⟩ ⟨hi,hol,ho⟩;dsimp only at hi hol ho ⊢;refine bifP (λhb=>?_) λhb=>?_
  rotate_left
  · have:i=code.length:=by have:=of_decide_eq_false hb;omega
    subst this;exact Cod.holds_miss ho
  have hil:i<code.length:=by have:=of_decide_eq_true hb;omega
  obtain ⟨g0,g1⟩:=Cod.qe7 hin hil;have hnl:((q04 l c).near (code.getD i 0)).length≤1000:=Qm (qef _ _) hws;have hwl:(l.2.getD (code.getD i 0).toNat []).length≤1000000:=hW.2.2 _ (by
    rw [Q0,Q4 (show (code.getD i 0).toNat<l.2.length by omega)];exact Qk _)
  refine ⟨by omega,⟨g0,g1⟩,⟨hW,hC,hwl⟩,⟨(0,o),⟨Qe _,by dsimp only;omega,Cod.qfl ho λz=>(Cod.nearTo_zero ..).symm⟩,rfl,rfl⟩,?_⟩
  rintro ⟨k,m⟩ ⟨hk,hml,hm⟩;dsimp only at hk hml hm ⊢;have hmX:q3s m:=hlong m _ hm (λz hz=>Cod.qku hi hz) (by
    have:=Qq 1002 hi;have:=Qq 1002 hlen;omega)
  refine bifP (λhb2=>?_) λhb2=>?_
  · have hkl:k<((q04 l c).near (code.getD i 0)).length:=by have:=of_decide_eq_true hb2;omega
    have hp:=Cod.qjq m (code.set i (((q04 l c).near (code.getD i 0)).getD k 0)) code;exact ⟨by omega,by omega,by omega,⟨hmX,by omega⟩,by omega,(k+1,Cod.putR m (code.set i (((q04 l c).near (code.getD i 0)).getD k 0)) code),⟨hkl,by dsimp only;omega,Cod.qfl (Cod.qh7 hm _ _) (Cod.nearTo_succ hil hkl)⟩,by dsimp only;omega,rfl,by dsimp only;omega⟩
  have hke:((q04 l c).near (code.getD i 0)).length≤k:=by have:=of_decide_eq_false hb2;omega
  have e2:((i:Int)+1).toNat=i+1:=by omega
  simp only [e2];refine ⟨⟨by omega,by omega,by omega,?_,?_,⟨hmX,?_⟩,_,rfl,rfl⟩,?_⟩
  · rw [Qh];omega
  · rw [Qh,Qt];omega
  · rw [Ql,Qh,Qt];omega
  rintro q rfl;have hp:=Cod.qjq m (code.take i++code.drop (i+1)) code;have hq:=Cod.qh7 hm (code.eraseIdx i) code;rw [Qr] at hq;generalize Cod.putR m (code.take i++code.drop (i+1)) code=q at hp hq ⊢;rw [← Qr] at hq;refine bifP (λc1=>?_) λc1=>?_
  · have h0:i≠0:=by have:=of_decide_eq_true c1;omega
    have e1:((i:Int)-1).toNat=i-1:=by omega
    simp only [e1,Nat.beq_refl,cond_true];have hqX:q3s q:=hlong q _ hq (λz hz=>hz.elim (λhz=>Cod.qku hi hz) λhz=>by
      rw [hz.1,List.length_eraseIdx_of_lt hil];omega) (by
      have:=Qq 1002 hi;have:=Qq 1002 hlen;omega)
    have hs:(code.set (i-1) (code.getD i 0)).set i (code.getD (i-1) 0)=Cod.swapAt code i:=by
      unfold Cod.swapAt;rw [List.set_comm _ _ (by omega)]
    rw [hs];have hp2:=Cod.qjq q (Cod.swapAt code i) code;exact ⟨by omega,by omega,by omega,by omega,by omega,by omega,by omega,⟨hqX,by omega⟩,by omega,(i+1,Cod.putR q (Cod.swapAt code i) code),⟨hil,by dsimp only;omega,Cod.qfl (Cod.qh7 hq _ _) (Cod.upTo_succ hil h0 hke)⟩,by dsimp only;omega,rfl,by dsimp only;omega⟩
  · have h0:i=0:=by have:=of_decide_eq_false c1;omega
    subst h0;exact ⟨by omega,(0+1,q),⟨hil,by dsimp only;omega,Cod.qfl hq (Cod.upTo_one hil hke)⟩,by dsimp only;omega,rfl,by dsimp only;omega⟩
set_option maxRecDepth 100000 in
theorem qPlaced_vc (g:Cod.Giv) :
    bif g.2.2.1 then True∧Cod.onB g.2.2.2=Cod.q2r g else (g.2.2.2.1==(0:Int)&&(g.2.2.2.2==(0:Int)&&true))=Cod.q2r g
     := by
  unfold Cod.q2r;refine bifP (λc1=>?_) λc1=>?_
  · rw [if_pos c1];exact ⟨trivial,rfl⟩
  · rw [if_neg (by rw [c1];decide),QF]
set_option maxRecDepth 100000 in
theorem qNear_vc (a b:Cod.Giv) :
    bif a.2.2.1 then bif b.2.2.1 then True∧decide (Cod.q1n a.2.2.2 b.2.2.2≤(1000000:Int))=Cod.q11 a b else false=Cod.q11 a b else false=Cod.q11 a b
     := by
  unfold Cod.q11;refine bifP (λc1=>bifP (λc2=>?_) λc2=>?_) λc1=>?_
  · rw [c1,c2];exact ⟨trivial,rfl⟩
  · rw [c2,QR,Qn]
  · rw [c1];rfl
set_option maxRecDepth 100000 in
theorem qFits_vc (g:Cod.Giv) (a:List (List Int)) (o:Cod.Giv) (b:List (List Int)) (h:cQFits.pre (g,a,o,b)) :
    g.2.1.length≤(1000000000000000:Nat)∧bif g.2.1==o.2.1 then false=Cod.q7f g a o b else q3s a∧bif a.any λ(y:List Int)=>y==o.2.1 then false=Cod.q7f g a o b else
    q3s b∧bif b.any λ(y:List Int)=>y==g.2.1 then false=Cod.q7f g a o b else (∃ (p':Nat),(p'≤a.length∧((Q7 p' a).all λ(z:List Int)=>!b.any λ(w:List Int)
    => w==z)=true)∧((0:Int)=(p':Int)∧a=a∧b=b∧True∧True∧True)∧((g.1=g.1∧g.2.1=g.2.1∧g.2.2.1=g.2.2.1∧g.2.2.2.1=g.2.2.2.1∧g.2.2.2.2=g.2.2.2.2∧True)
    ∧ (o.1=o.1∧o.2.1=o.2.1∧o.2.2.1=o.2.2.1∧o.2.2.2.1=o.2.2.2.1∧o.2.2.2.2=o.2.2.2.2∧True)∧True)∧True∧True∧True∧True∧True∧True∧True∧True)∧∀ (p:Nat),p ≤
    a.length∧((Q7 p a).all λ(z:List Int)=>!b.any λ(w:List Int)=>w==z)=true→bif decide ((p:Int)<(a.length:Int)) then True∧bif Cod.q11 g o then ((0:Int)
    ≤ (p:Int)∧(p:Int)<(a.length:Int))∧q3s b∧bif b.any λ(y:List Int)=>y==a.getD (p:Int).toNat [] then false=Cod.q7f g a o b else ((-9223372036854775808:Int) ≤
    (p:Int)+(1:Int)∧(p:Int)+(1:Int)≤(9223372036854775807:Int))∧∃ (p':Nat),(p'≤a.length∧((Q7 p' a).all λ(z:List Int)=>!b.any λ(w:List Int)=>w ==
    z)=true)∧a.length-p'<a.length-p∧((p:Int)+(1:Int)=(p':Int)∧a=a∧b=b∧True∧True∧True)∧((g.1=g.1∧g.2.1=g.2.1∧g.2.2.1=g.2.2.1∧g.2.2.2.1 =
    g.2.2.2.1∧g.2.2.2.2=g.2.2.2.2∧True)∧(o.1=o.1∧o.2.1=o.2.1∧o.2.2.1=o.2.2.1∧o.2.2.2.1=o.2.2.2.1∧o.2.2.2.2=o.2.2.2.2∧True)∧True)∧True∧True∧True∧True∧True
    ∧ True∧True∧True else true=Cod.q7f g a o b else true=Cod.q7f g a o b
     := by
  obtain ⟨hg,ha,hb⟩:g.2.1.length≤1000000∧q3s a∧q3s b:=h;have hal:=ha.1;simp only [true_and,and_true,eq_self,and_self];unfold Cod.q7f;refine ⟨by omega,bifP (λc1=>?_) λc1=>⟨ha,bifP (λc2=>?_) λc2=>⟨hb,bifP (λc3=>?_) λc3=>⟨⟨0,⟨Qe _,rfl⟩,rfl⟩,?_⟩⟩⟩⟩
  · rw [c1];rfl
  · rw [c2,QJ,Qu];rfl
  · rw [c3,Qu,Qu];rfl
  rintro k ⟨hk,hal2⟩;rw [c1,c2,c3];refine bifP (λhb2=>bifP (λc4=>?_) λc4=>?_) λhb2=>?_
  · have hkl:k<a.length:=by have:=of_decide_eq_true hb2;omega
    simp only [Qf];refine ⟨by omega,hb,bifP (λc5=>?_) λc5=>⟨by omega,k+1,⟨by omega,?_⟩,by omega,by omega⟩⟩
    · rw [c4]
      have hm:a.getD k []∈a:=by
        rw [Q0,Q4 hkl];exact Qk hkl
      have:(a.all λz=>!(b.any λw=>w==z))=false:=by
        rw [← QY,QI];intro hh;have:=hh _ hm;rw [show (b.any λw=>w==a.getD k [])=true from c5] at this
        cases this
      rw [this];rfl
    · rw [Snd.q0q a [] k hkl,QN,hal2,Qg,QA,show (b.any λw=>w==a.getD k [])=false from c5];rfl
  · rw [c4];rfl
  · have:k=a.length:=by have:=of_decide_eq_false hb2;omega
    subst this;rw [Qo] at hal2;rw [hal2,Qu];rfl
set_option maxRecDepth 100000 in
theorem qAll_vc (l:WlP) (c:CfP) (book:List Cod.Giv) (h:cQAll.pre (l,c,book)) :
    (∃ (p':Nat),p'≤book.length∧(True∧(0:Int)=(p':Int)∧c=c∧book=book∧True∧True)∧((l.1=l.1∧l.2=l.2∧True)∧True)∧(Cod.allM (q04 l c) (Q7 p' book) =
    []∧True)∧True∧True∧True∧True∧True∧True∧True)∧∀ (p:Nat),p≤book.length→bif decide ((p:Int)<(book.length:Int)) then ((0:Int)≤(p:Int)∧(p:Int) <
    (book.length:Int))∧(q3i l c∧SmallC l (book.getD (p:Int).toNat ([],[],false,(0:Int),(0:Int))).2.1)∧((Cod.allM (q04 l c) (Q7 p book)).length+[Cod.q4y
    ((q04 l c).miss (book.getD (p:Int).toNat ([],[],false,(0:Int),(0:Int))).2.1)].length)*(24:Nat)≤(140737488355328:Nat)∧((-9223372036854775808:Int)≤(p:Int)+(1 :
    Int)∧(p:Int)+(1:Int)≤(9223372036854775807:Int))∧∃ (p':Nat),p'≤book.length∧book.length-p'<book.length-p∧(True∧(p:Int)+(1:Int)=(p':Int)∧c=c ∧
    book=book∧True∧True)∧((l.1=l.1∧l.2=l.2∧True)∧True)∧(Cod.allM (q04 l c) (Q7 p book)++[Cod.q4y ((q04 l c).miss (book.getD (p:Int).toNat ([],[],false,(0
    : Int),(0:Int))).2.1)]=Cod.allM (q04 l c) (Q7 p' book)∧True)∧True∧True∧True∧True∧True∧True∧True else Cod.allM (q04 l c) (Q7 p book)=Cod.allM (q04 l
    c) book
     := by
  obtain ⟨hE,hbl,hb⟩:q3i l c∧book.length≤1000∧∀ g∈book,SmallC l g.2.1:=h;simp only [true_and,and_true,eq_self,and_self];refine ⟨⟨0,Qe _,rfl,rfl⟩,λk hk=>bifP (λhb2=>?_) λhb2=>?_⟩
  · have hkl:k<book.length:=by have:=of_decide_eq_true hb2;omega
    simp only [Qf];have hm:book.getD k giv0∈book:=by
      rw [Q0,Q4 hkl];exact Qk hkl
    have hl2:(Cod.allM (q04 l c) (book.take k)).length≤1000:=by
      unfold Cod.allM;rw [QK,Qh];omega
    exact ⟨by omega,⟨hE,hb _ hm⟩,by rw [Qb];omega,by omega,k+1,by omega,by omega,by omega,(Cod.allM_next _ _ hkl giv0).symm⟩
  · have:k=book.length:=by have:=of_decide_eq_false hb2;omega
    subst this;rw [Qo]
set_option maxRecDepth 100000 in
theorem qProper_vc (l:WlP) (c:CfP) (book:List Cod.Giv) (h:qeu.pre (l,c,book)) :
    q0w l∧bif !Snd.q0k l.1 l.2 then false=(q04 l c).proper book else q0n c∧bif !Snd.q0j c then false=(q04 l c).proper book else bif decide ((20000:Int)<(↑book.length :
    Int)) then false=(q04 l c).proper book else (∃ (p':Nat),(p'≤book.length∧∀ (g:Cod.Giv),g∈Q7 p' book→Cod.okG (q04 l c) g=true)∧((0:Int)=(p':Int)∧c=c ∧
    book=book∧True∧True)∧((l.1=l.1∧l.2=l.2∧True)∧True)∧True∧True∧True∧True∧True∧True∧True∧True)∧∀ (p:Nat),(p≤book.length∧∀ (g:Cod.Giv),g∈Q7
    p book→Cod.okG (q04 l c) g=true)→bif decide ((p:Int)<(book.length:Int)) then ((0:Int)≤(p:Int)∧(p:Int)<(book.length:Int))∧(book.getD (p:Int).toNat ([],
    [],false,(0:Int),(0:Int))).1.length≤(1000000:Nat)∧bif !Lx.q18 (book.getD (p:Int).toNat ([],[],false,(0:Int),(0:Int))).1 then false=(q04 l c).proper book else
    ((0:Int)≤(p:Int)∧(p:Int)<(book.length:Int))∧(q0w l∧(book.getD (p:Int).toNat ([],[],false,(0:Int),(0:Int))).2.1.length≤(1000000:Nat))∧bif !Cod.q1l
    l.1 l.2 (book.getD (p:Int).toNat ([],[],false,(0:Int),(0:Int))).2.1 then false=(q04 l c).proper book else ((0:Int)≤(p:Int)∧(p:Int)<(book.length:Int))∧True ∧
    bif !Cod.q2r (book.getD (p:Int).toNat ([],[],false,(0:Int),(0:Int))) then false=(q04 l c).proper book else ((-9223372036854775808:Int)≤(p:Int)+(1:Int)∧(↑p :
    Int)+(1:Int)≤(9223372036854775807:Int))∧∃ (p':Nat),(p'≤book.length∧∀ (g:Cod.Giv),g∈Q7 p' book→Cod.okG (q04 l c) g=true)∧book.length-p'<book.length -
    p∧((p:Int)+(1:Int)=(p':Int)∧c=c∧book=book∧True∧True)∧((l.1=l.1∧l.2=l.2∧True)∧True)∧True∧True∧True∧True∧True∧True∧True∧True else (q3i
    l c∧SmallB l book)∧(∃ (p':Nat),(p'≤book.length∧∀ (i:Nat),i<p'→twoTo (q04 l c) book i i)∧((0:Int)=(p':Int)∧c=c∧book=book∧True∧Cod.allM (q04 l c)
    book=Cod.allM (q04 l c) book∧True)∧((l.1=l.1∧l.2=l.2∧True)∧True)∧True∧True∧True∧True∧True∧True∧True∧True)∧∀ (p:Nat),(p≤book.length∧∀ (i:Nat),i <
    p→twoTo (q04 l c) book i i)→bif decide ((p:Int)<(book.length:Int)) then (∃ (p':Nat),(p'≤(p:Int).toNat∧twoTo (q04 l c) book (p:Int).toNat p')∧((0:Int)=(↑p'
    : Int)∧c=c∧book=book∧True∧Cod.allM (q04 l c) book=Cod.allM (q04 l c) book∧(p:Int)=(p:Int)∧True)∧((l.1=l.1∧l.2=l.2∧True)∧True)∧True∧True∧True ∧
    True∧True∧True∧True∧True)∧∀ (p_1:Nat),p_1≤(p:Int).toNat∧twoTo (q04 l c) book (p:Int).toNat p_1→bif decide ((p_1:Int)<(p:Int)) then ((0:Int)≤(↑p_1 :
    Int)∧(p_1:Int)<(book.length:Int))∧((0:Int)≤(p:Int)∧(p:Int)<(book.length:Int))∧bif (book.getD (p_1:Int).toNat ([],[],false,(0:Int),(0:Int))).1 ==
    (book.getD (p:Int).toNat ([],[],false,(0:Int),(0:Int))).1 then false=(q04 l c).proper book else ((0:Int)≤(p_1:Int)∧(p_1:Int)<(book.length:Int))∧((0:Int) ≤
    (p_1:Int)∧(p_1:Int)<(↑(Cod.allM (q04 l c) book).length:Int))∧((0:Int)≤(p:Int)∧(p:Int)<(book.length:Int))∧((0:Int)≤(p:Int)∧(p:Int)<(↑(Cod.allM
    (q04 l c) book).length:Int))∧((book.getD (p_1:Int).toNat ([],[],false,(0:Int),(0:Int))).2.1.length≤(1000000:Nat)∧q3s ((Cod.allM (q04 l c) book).getD (↑p_1 :
    Int).toNat [])∧q3s ((Cod.allM (q04 l c) book).getD (p:Int).toNat []))∧bif !Cod.q7f (book.getD (p_1:Int).toNat ([],[],false,(0:Int),(0:Int))) ((Cod.allM (q04 l c)
    book).getD (p_1:Int).toNat []) (book.getD (p:Int).toNat ([],[],false,(0:Int),(0:Int))) ((Cod.allM (q04 l c) book).getD (p:Int).toNat []) then false=(q04 l c).proper
    book else ((-9223372036854775808:Int)≤(p_1:Int)+(1:Int)∧(p_1:Int)+(1:Int)≤(9223372036854775807:Int))∧∃ (p':Nat),(p'≤(p:Int).toNat∧twoTo (q04 l c) book
    (p:Int).toNat p')∧(p:Int).toNat-p'<(p:Int).toNat-p_1∧((p_1:Int)+(1:Int)=(p':Int)∧c=c∧book=book∧True∧Cod.allM (q04 l c) book=Cod.allM (q04 l
    c) book∧(p:Int)=(p:Int)∧True)∧((l.1=l.1∧l.2=l.2∧True)∧True)∧True∧True∧True∧True∧True∧True∧True∧True else ((-9223372036854775808:Int)≤(p:Int) +
    (1:Int)∧(p:Int)+(1:Int)≤(9223372036854775807:Int))∧∃ (p':Nat),(p'≤book.length∧∀ (i:Nat),i<p'→twoTo (q04 l c) book i i)∧book.length-p'<book.length-p ∧
    ((p:Int)+(1:Int)=(p':Int)∧c=c∧book=book∧True∧Cod.allM (q04 l c) book=Cod.allM (q04 l c) book∧True)∧((l.1=l.1∧l.2=l.2∧True)∧True)∧True∧True ∧
    True∧True∧True∧True∧True∧True else true=(q04 l c).proper book
     := by
  obtain ⟨⟨hW,hC,hws⟩,hbl,hb⟩:(q0w l∧q0n c∧Qa l.2≤1000)∧book.length≤1000∧∀ g∈book,g.1.length≤1000000∧g.2.1.length≤1000:=h;simp only [true_and,and_true,eq_self,and_self];have hmem:∀ k,k<book.length→book.getD k giv0∈book:=λk hkl=>by
    rw [Q0,Q4 hkl];exact Qk hkl
  have hbad:∀ k,k<book.length→Cod.okG (q04 l c) (book.getD k giv0)=false→false=(q04 l c).proper book:=λk hk hf=>Cod.qje λht=>by
    have:=(Cod.q5v.1 ht).2.2.1 _ (hmem k hk)
    rw [hf] at this;cases this
  refine ⟨hW,bifP (λc1=>?_) λc1=>⟨hC,bifP (λc2=>?_) λc2=>bifP (λc3=>?_) λc3=>?_⟩⟩
  · unfold Cod.Ear.proper Cod.Ear.ok;rw [show Snd.q0k (q04 l c).lang (q04 l c).ws=false from cast (Qi _) c1];rfl
  · unfold Cod.Ear.proper Cod.Ear.ok;rw [show Snd.q0j (q04 l c).c=false from cast (Qi _) c2,Qn];rfl
  · have:=of_decide_eq_true c3;omega
  have hok:(q04 l c).ok=true:=by unfold Cod.Ear.ok;rw [show Snd.q0k (q04 l c).lang (q04 l c).ws=true from cast (Qd _) c1,show Snd.q0j (q04 l c).c=true from cast (Qd _) c2];rfl
  refine ⟨⟨0,⟨Qe _,λg hg=>by cases hg⟩,rfl⟩,?_⟩
  rintro k ⟨hk,hall⟩;refine bifP (λhb2=>?_) λhb2=>?_
  · have hkl:k<book.length:=by have:=of_decide_eq_true hb2;omega
    simp only [Qf];have hg:=hb _ (hmem k hkl);refine ⟨by omega,hg.1,bifP (λc4=>hbad k hkl ?_) λc4=>⟨by omega,⟨hW,Qm hg.2 (by decide)⟩,bifP (λc5=>hbad k hkl ?_) λc5=>⟨by omega,bifP (λc6=>hbad k hkl ?_) λc6=>⟨by omega,k+1,⟨by omega,?_⟩,by omega,by omega⟩⟩⟩⟩
    · unfold Cod.okG;rw [show Lx.q18 (book.getD k giv0).1=false from cast (Qi _) c4];rfl
    · unfold Cod.okG;rw [show Cod.q1l (q04 l c).lang (q04 l c).ws (book.getD k giv0).2.1=false from cast (Qi _) c5,Qn,Qn]
    · unfold Cod.okG;rw [show Cod.q2r (book.getD k giv0)=false from cast (Qi _) c6,QR,Qn]
    · intro g hg2
      rw [Snd.q0q book giv0 k hkl] at hg2;rcases List.mem_append.1 hg2 with h' | h'
      · exact hall g h'
      · rw [List.mem_singleton.1 h']
        unfold Cod.okG;rw [show Lx.q18 (book.getD k giv0).1=true from cast (Qd _) c4,show Cod.q1l (q04 l c).lang (q04 l c).ws (book.getD k giv0).2.1=true from cast (Qd _) c5,show Cod.q2r (book.getD k giv0)=true from cast (Qd _) c6];rfl
  have:k=book.length:=by have:=of_decide_eq_false hb2;omega
  subst this;rw [Qo] at hall;have hcode:∀ g∈book,Cod.inB l.2.length g.2.1=true∧g.2.1.length≤5:=λg hg=>by
    have:=hall g hg
    unfold Cod.okG at this;simp only [Q9] at this;exact Cod.qbk this.2.2
  refine ⟨⟨⟨hW,hC,hws⟩,hbl,λg hg=>⟨(hb g hg).2,(hcode g hg).1⟩⟩,⟨0,⟨Qe _,λi hi=>absurd hi (QM _)⟩,rfl⟩,?_⟩
  rintro k ⟨hk,htwo⟩;refine bifP (λhb3=>?_) λhb3=>?_
  rotate_left
  · have:k=book.length:=by have:=of_decide_eq_false hb3;omega
    subst this
    symm
    refine Cod.q5v.2 ⟨hok,by omega,hall,?_⟩
    rw [List.pairwise_iff_getElem];intro i j hi hj hij;have:=htwo j hj i hij
    rwa [Q0,Q4 hi,Q0,Q4 hj] at this
  have hkl:k<book.length:=by have:=of_decide_eq_true hb3;omega
  simp only [Qf];refine ⟨⟨0,⟨Qe _,λi hi=>absurd hi (QM _)⟩,rfl⟩,?_⟩
  rintro j ⟨hj,hjt⟩;refine bifP (λhb4=>?_) λhb4=>?_
  rotate_left
  · have:j=k:=by have:=of_decide_eq_false hb4;omega
    subst this;refine ⟨by omega,j+1,⟨by omega,λi hi=>?_⟩,by omega,by omega⟩
    rcases Nat.lt_or_ge i j with h' | h'
    · exact htwo i h'
    · obtain rfl:i=j:=by omega
      exact hjt
  have hjk:j<k:=by have:=of_decide_eq_true hb4;omega
  have hjl:j<book.length:=by omega
  try simp only [Qf]
  have hbad2:¬ (q04 l c).two (book.getD j giv0) (book.getD k giv0)→false=(q04 l c).proper book:=λhn=>Cod.qje λht=>hn (Cod.proper_two ht giv0 hjl hkl (by omega))
  have hal:(Cod.allM (q04 l c) book).length=book.length:=by unfold Cod.allM;rw [QK]
  have hc1:=hcode _ (hmem j hjl);have hc2:=hcode _ (hmem k hkl);have hfit:=Cod.fits_apart (q04 l c) (book.getD j giv0) (book.getD k giv0);rw [Cod.allM_get _ _ hjl giv0,Cod.allM_get _ _ hkl giv0];have hL1:q3s (Cod.q4y ((q04 l c).miss (book.getD j giv0).2.1)):=long_mist (by omega) hW.2.1
  have hL2:q3s (Cod.q4y ((q04 l c).miss (book.getD k giv0).2.1)):=long_mist (by omega) hW.2.1
  rw [hfit];refine ⟨by omega,by omega,bifP (λc4=>hbad2 λht=>?_) λc4=>⟨by omega,by omega,by omega,by omega,⟨Qm hc1.2 (by decide),hL1,hL2⟩,bifP (λc5=>hbad2 λht=>?_) λc5=>⟨by omega,j+1,⟨by omega,λi hi=>?_⟩,by omega,by omega⟩⟩⟩
  · exact ht.1 (eq_of_beq c4)
  · rw [ht.2] at c5;cases c5
  · rcases Nat.lt_or_ge i j with h' | h'
    · exact hjt i h'
    · obtain rfl:i=j:=by omega
      exact ⟨λe=>(by rw [show ((book.getD i giv0).1==(book.getD k giv0).1)=true from beq_iff_eq.2 e] at c4;cases c4),cast (Qd _) c5⟩
end Go.Proofs.YtlfaaoalgcbcoaaGreatDoor

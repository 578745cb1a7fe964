/-
  Several texts in one: HeH, HeLB, HeLC, CoGA, HeI, HeJL, HeK, HeJ, HeM.
-/
import Derived.Test.YtfecgebhoondjaaGreatDoorPP
import Derived.Test.YtfecgebhoondjaaGreatDoorPL
import Derived.Test.YtfecgebhoondjaaGreatDoorPA
set_option linter.unusedVariables false
namespace Go.Proofs.YtfecgebhoondjaaGreatDoor
open Go.RowKit R
def fOdd:FCon:={ f:=100,args:=[q3c],fa:=.fn 101,res:=[q3d],pre:=λs _=>List.length s≤1000000,F:=λs _=>List.any s λc=>!Snd.letB c }
theorem idx_odd (s:List UInt8):∀ (f pos:Nat),s.length-pos≤f→(decide (0≤Lib.idxFuncFrom (λx=>oddR (x:Int)) true (bs s) f pos))=(s.drop pos).any λc=>!Snd.letB c
 | 0,pos,h=>by
  rw [List.drop_eq_nil_of_le (by omega)];rfl
 | f+1,pos,h=>by
  unfold Lib.idxFuncFrom;by_cases hp:pos<(bs s).size
  ·rw [if_pos hp]
   have hp':pos<s.length:=hp;obtain ⟨h1,h2,h3⟩:=rune_is s pos hp;have hd:s.drop pos=s.getD pos 0::s.drop (pos+1):=by
    rw [List.drop_eq_getElem_cons hp',List.getD_eq_getElem?_getD,List.getElem?_eq_getElem hp'];rfl
   rw [hd,List.any_cons];cases hl:Snd.letB (s.getD pos 0)
   ·have h3:=h3 hl
    have ho:oddR ((Utf8.decode (bs s) pos).1:Int)=true:=by
     unfold oddR;simp only [Bool.or_eq_true,decide_eq_true_eq];omega
    rw [if_pos ho,decide_eq_true (Int.natCast_nonneg pos)];rfl
   ·obtain ⟨h4,h5,h6⟩:=h2 hl
    have ho:oddR (((s.getD pos 0).toNat:Int))=false:=by
     unfold oddR;simp only [Bool.or_eq_false_iff,decide_eq_false_iff_not];omega
    rw [h4];dsimp only;rw [ho,if_neg (by decide),idx_odd s f (pos+1) (by omega)];rfl
  ·rw [if_neg hp,List.drop_eq_nil_of_le (by have:(bs s).size=s.length:=rfl;omega)];rfl
set_option maxRecDepth 100000 in
theorem odd_calls (W:World) (x:Nat):Calls Tryz.prog 101 (#[encR x]++#[]) W λe w'=>e=.returned (.bool (oddR (x:Int)))∧Below W.heap.size W w':=by
 have h:=odd_holds.2 (x:Int) [.int .i32 x] W (λ_=>False) (λ_ h=>h.elim) trivial ⟨rfl,λi c hc=>by
  match i,hc with
  | 0,hc=>injection hc with hc;subst hc;exact ⟨_,rfl,rfl⟩
  | i+1,hc=>cases hc⟩
 refine h.mono ?_;rintro e w' ⟨r,v,rfl,hr,hv,hb⟩;have hr:r=oddR (x:Int):=hr;have hv:v=.bool r:=hv;rw [hv,hr];exact ⟨rfl,hb⟩
set_option maxRecDepth 100000 in
theorem qkk:fOdd.Holds Tryz.prog:=by
 refine ⟨⟨_,Tryz.func100,by kernel_rfl,by kernel_rfl⟩,λp b vs fvs w S hS hpre hvs hfa=>?_⟩
 have hfa:fvs=[.func (.func 101) #[] #[]]:=hfa;subst hfa;obtain ⟨s,rfl⟩:∃ q:List UInt8,q=p:=⟨p,rfl⟩;obtain ⟨v,rfl,hv⟩:=q18 hvs;obtain rfl:v=.string (bs s):=hv;refine (Tryz.strings_ContainsFunc_grows 101 #[] (enters_of Tryz.func101 (by kernel_rfl) rfl) (λx=>oddR (x:Int)) (bs s) w (λW x _ _=>odd_calls W x)).mono ?_
 rintro e w' ⟨rfl,hb⟩;refine ⟨hb,_,rfl,?_⟩;have hi:=idx_odd s (bs s).size 0 (by show s.length-0≤s.length;omega)
 rw [List.drop_zero] at hi;show Value.bool (decide (0≤Lib.idxFunc _ true (bs s)))=Value.bool _;unfold Lib.idxFunc;rw [hi];rfl
end Go.Proofs.YtfecgebhoondjaaGreatDoor
namespace Go.Proofs.YtfecgebhoondjaaGreatDoor
namespace Hea
theorem cutW_ne:∀ s:Str,cutW s≠[]
 | []=>by intro h;cases h
 | c::r=>by
  unfold cutW;split
  ·intro h;cases h
  ·split
   ·intro h;cases h
   ·intro h;cases h
theorem cut_word:∀ {w:Str} (s:Str),(32:UInt8) ∉ w→cutW (w++32::s)=w::cutW s
 | [],s,_=>by
  show cutW (32::s)=[]::cutW s;rw [cutW,if_pos (by decide)]
 | c::w,s,h=>by
  have hc:¬ (c==32)=true:=λe=>h (by rw [eq_of_beq e];exact List.mem_cons_self)
  have ih:=cut_word (w:=w) s (λhm=>h (List.mem_cons_of_mem _ hm))
  rw [List.cons_append,cutW,if_neg hc,ih]
theorem cut_last:∀ {w:Str},(32:UInt8) ∉ w→cutW w=[w]
 | [],_=>rfl
 | c::w,h=>by
  have hc:¬ (c==32)=true:=λe=>h (by rw [eq_of_beq e];exact List.mem_cons_self)
  have ih:=cut_last (w:=w) (λhm=>h (List.mem_cons_of_mem _ hm))
  rw [cutW,if_neg hc,ih]
theorem own_cons (ws:List Str) (i:Int) (r:List Int):ownW ws (i::r)=ws.getD i.toNat []::ownW ws r:=rfl
theorem cut_joinC {lang:Str} {ws:List Str} (hv:Snd.q0h lang ws=true):∀ {l:List Int},l≠[]→Cod.inB ws.length l=true→cutW (Cod.q2w ws l)=ownW ws l
 | [],h,_=>absurd rfl h
 | [i],_,h=>cut_last (Cod.no_blank hv (Cod.qdh h).1.2)
 | i::k::r,_,h=>by
  obtain ⟨⟨_,h1⟩,h2⟩:=Cod.qdh h;rw [Cod.q8x,cut_word _ (Cod.no_blank hv h1),cut_joinC hv (by intro h;cases h) h2]
  rfl
theorem wordB_of {lang:Str} {ws:List Str} (hv:Snd.q0h lang ws=true) {i:Nat} (hi:i<ws.length):q47 (ws.getD i [])=true:=by
 have h:=Cod.qaz hv hi;unfold Snd.q67 Snd.q0j at h;simp only [Bool.and_eq_true,decide_eq_true_eq] at h;obtain ⟨h1,h2,h3⟩:=h;unfold q47;simp only [Bool.and_eq_true,decide_eq_true_eq,Bool.not_eq_true',List.isEmpty_eq_false_iff];exact ⟨λe=>by rw [e] at h2;exact absurd h2 (by decide),by omega,h1⟩
theorem own_words {lang:Str} {ws:List Str} (hv:Snd.q0h lang ws=true):∀ {l:List Int},Cod.inB ws.length l=true→(ownW ws l).all q47=true
 | [],_=>rfl
 | i::r,h=>by
  obtain ⟨⟨_,h1⟩,h2⟩:=Cod.qdh h;rw [own_cons,List.all_cons,wordB_of hv h1,own_words hv h2];rfl
theorem qbd (ws:List Str) (l:List Int):(ownW ws l).length=l.length:=by unfold ownW;rw [List.length_map]
theorem qf0 {lang:Str} {ws:List Str} (hv:Snd.q0h lang ws=true) {l:List Int} (h0:l≠[]) (h5:l.length≤5) (h:Cod.inB ws.length l=true):q7b (Cod.q2w ws l)=some (ownW ws l):=by
 unfold q7b;rw [cut_joinC hv h0 h,own_words hv h,qbd,decide_eq_true h5];rfl
theorem own_set (ws:List Str) (l:List Int) (i:Nat) (k:Int):ownW ws (l.set i k)=(ownW ws l).set i (ws.getD k.toNat []):=by unfold ownW;rw [List.map_set]
theorem own_erase (ws:List Str) (l:List Int) (i:Nat):ownW ws (l.eraseIdx i)=(ownW ws l).eraseIdx i:=by
 unfold ownW;rw [List.eraseIdx_eq_take_drop_succ,List.eraseIdx_eq_take_drop_succ,List.map_append,List.map_take,List.map_drop]
theorem q94 (ws:List Str) {l:List Int} {i:Nat} (hi:i<l.length):(ownW ws l).getD i []=ws.getD (l.getD i 0).toNat []:=by
 unfold ownW;rw [List.getD_eq_getElem?_getD,List.getElem?_map,List.getD_eq_getElem?_getD (l:=l),List.getElem?_eq_getElem hi];rfl
theorem diff_same:∀ l:List Str,diff l l=[]
 | []=>rfl
 | x::r=>by rw [diff,if_pos (beq_self_eq_true x),diff_same r]
theorem diff_set:∀ {l:List Str} {i:Nat} {w:Str},i<l.length→w≠l.getD i []→diff l (l.set i w)=[(l.getD i [],w)]
 | [],i,w,h,_=>absurd h (Nat.not_lt_zero _)
 | x::r,0,w,_,hne=>by
  have hne:w≠x:=hne;show diff (x::r) (w::r)=[(x,w)];rw [diff,if_neg (by rw [beq_iff_eq];exact λe=>hne e.symm),diff_same]
 | x::r,i+1,w,h,hne=>by
  have h:i<r.length:=by rw [List.length_cons] at h;omega
  show diff (x::r) (x::r.set i w)=[(r.getD i [],w)];rw [diff,if_pos (beq_self_eq_true x),diff_set h hne]
theorem diff_nil:∀ {l m:List Str},l.length=m.length→diff l m=[]→l=m
 | [],[],_,_=>rfl
 | [],_::_,h,_=>by cases h
 | _::_,[],h,_=>by cases h
 | x::l,y::m,h,hd=>by
  rw [diff] at hd;split at hd
  ·rename_i hxy
   rw [eq_of_beq hxy,diff_nil (by simpa using h) hd]
  ·cases hd
theorem diff_one:∀ {l m:List Str} {p:Str×Str},l.length=m.length→diff l m=[p]→∃ i,i<l.length∧p.1=l.getD i []∧p.2≠p.1∧m=l.set i p.2
 | [],[],p,_,h=>by cases h
 | [],_::_,_,h,_=>by cases h
 | _::_,[],_,h,_=>by cases h
 | x::l,y::m,p,h,hd=>by
  have hl:l.length=m.length:=by simpa using h
  rw [diff] at hd;split at hd
  ·rename_i hxy
   obtain ⟨i,h1,h2,h3,h4⟩:=diff_one hl hd;refine ⟨i+1,by rw [List.length_cons];omega,h2,h3,?_⟩
   rw [← eq_of_beq hxy,List.set_cons_succ,← h4]
  ·rename_i hxy
   injection hd with h1 h2;have:=diff_nil hl h2;subst h1 this;exact ⟨0,by rw [List.length_cons];omega,rfl,λe=>hxy (by rw [show y=x from e];exact beq_self_eq_true x),rfl⟩
theorem repl_iff {al:Str→Str→Bool} {own words:List Str}:q3k al own words=true↔∃ i w,i<own.length∧w≠own.getD i []∧al (own.getD i []) w=true∧words=own.set i w:=by
 unfold q3k;simp only [Bool.and_eq_true,beq_iff_eq];constructor
 ·rintro ⟨hl,ha,h1⟩
  match hd:diff own words with
  | []=>rw [hd] at h1;cases h1
  | [p] =>
   rw [hd] at ha;obtain ⟨i,q1,q2,q3,q4⟩:=diff_one hl hd;rw [List.all_cons,Bool.and_eq_true] at ha;exact ⟨i,p.2,q1,by rw [← q2];exact q3,by rw [← q2];exact ha.1,q4⟩
  | _::_::_=>rw [hd] at h1;simp at h1
 ·rintro ⟨i,w,hi,hne,ha,rfl⟩
  refine ⟨(List.length_set ..).symm,?_⟩;rw [diff_set hi hne];refine ⟨?_,rfl⟩;rw [List.all_cons,List.all_nil,Bool.and_true];exact ha
theorem miss_iff {own words:List Str}:q3v own words=true↔∃ i,i<own.length∧words=own.eraseIdx i:=by
 unfold q3v;simp only [List.any_eq_true,List.mem_range,beq_iff_eq];exact ⟨λ⟨i,h,e⟩=>⟨i,h,e.symm⟩,λ⟨i,h,e⟩=>⟨i,h,e.symm⟩⟩
theorem exch_iff {own words:List Str}:q3u own words=true↔∃ i,i+1<own.length∧own.getD i []≠own.getD (i+1) []∧words=q15 own i:=by
 unfold q3u;simp only [List.any_eq_true,List.mem_range,Bool.and_eq_true,beq_iff_eq,bne_iff_ne];exact ⟨λ⟨i,h,e,n⟩=>⟨i,by omega,n,e.symm⟩,λ⟨i,h,n,e⟩=>⟨i,by omega,e.symm,n⟩⟩
theorem mist_iff {al:Str→Str→Bool} {own words:List Str}:q78 al own words=true↔(∃ i w,i<own.length∧w≠own.getD i []∧al (own.getD i []) w=true∧words=own.set i w)∨(∃ i,i<own.length∧words=own.eraseIdx i)∨∃ i,i+1<own.length∧own.getD i []≠own.getD (i+1) []∧words=q15 own i:=by
 unfold q78;rw [Bool.or_eq_true,Bool.or_eq_true,repl_iff,miss_iff,exch_iff]
theorem swap_own (ws:List Str) {code:List Int} {k:Nat} (hk:k+1<code.length):ownW ws (Cod.swapAt code (k+1))=q15 (ownW ws code) k:=by
 rw [Cod.swap_succ hk,own_set,own_set];unfold q15;rw [q94 ws hk,q94 ws (show k<code.length by omega)]
theorem alike_iff {e:Cod.Ear} (h:e.ok=true) {i k:Nat} (hi:i<e.ws.length) (hk:k<e.ws.length):q06 e (e.ws.getD i []) (e.ws.getD k [])=Snd.q3f e.c (e.ws.getD i []) (e.ws.getD k []):=by
 obtain ⟨h1,h2⟩:=Cod.ok_out h;unfold q06 Snd.q2a;rw [h2,Cod.qaz h1 hi,Cod.qaz h1 hk];rfl
theorem miss_in {e:Cod.Ear} (h:e.ok=true) {code x:List Int} (hc:Cod.q1q e.lang e.ws code=true) (hx:x∈e.miss code):Cod.inB e.ws.length x=true:=by
 obtain ⟨hv,hl,hin⟩:=Cod.q6a hc;obtain ⟨i,hi,hx⟩:=(Cod.q7n e code x).1 hx;rcases (Cod.q5l e code x i).1 hx with ⟨k,hk,_,rfl⟩ | rfl | ⟨hn,rfl⟩
 ·obtain ⟨h0,h1⟩:=Cod.q99 hin hi
  obtain ⟨q0,q1⟩:=Cod.near_in h h0 h1 hk;exact Cod.in_set hin q0 q1
 ·unfold Cod.inB at hin ⊢
  rw [List.all_eq_true] at hin ⊢;exact λz hz=>hin z ((List.eraseIdx_sublist code i).subset hz)
 ·unfold Cod.swapAt
  have hi0:i≠0:=λe=>hn (.inl e)
  obtain ⟨h0,h1⟩:=Cod.q99 hin hi;obtain ⟨q0,q1⟩:=Cod.q99 hin (show i-1<code.length by omega)
  exact Cod.in_set (Cod.in_set hin q0 q1) h0 h1
theorem ql3 {e:Cod.Ear} (h:e.ok=true) {code x:List Int} (hc:Cod.q1q e.lang e.ws code=true) (hx:x∈e.miss code):q78 (q06 e) (ownW e.ws code) (ownW e.ws x)=true:=by
 obtain ⟨hv,hl,hin⟩:=Cod.q6a hc;obtain ⟨i,hi,hx⟩:=(Cod.q7n e code x).1 hx;refine mist_iff.2 ?_;obtain ⟨h0,h1⟩:=Cod.q99 hin hi;rcases (Cod.q5l e code x i).1 hx with ⟨k,hk,hne,rfl⟩ | rfl | ⟨hn,rfl⟩
 ·left
  obtain ⟨q0,q1⟩:=Cod.near_in h h0 h1 hk;refine ⟨i,e.ws.getD k.toNat [],by rw [qbd];exact hi,?_,?_,own_set ..⟩
  ·rw [q94 e.ws hi]
   intro he;have:=Cod.word_inj hv (show k.toNat<e.ws.length by omega) (show (code.getD i 0).toNat<e.ws.length by omega) he
   omega
  ·rw [q94 e.ws hi,alike_iff h (by omega) (by omega)]
   have hb:=Cod.near_back h h0 h1 hk;obtain ⟨j,hj,_,hs⟩:=(Cod.qdz h q0 q1).1 hb;rw [hj,Int.toNat_natCast];exact hs
 ·right;left
  exact ⟨i,by rw [qbd];exact hi,own_erase ..⟩
 ·right;right
  have hi0:i≠0:=λe=>hn (.inl e)
  obtain ⟨k,rfl⟩:∃ k,i=k+1:=⟨i-1,by omega⟩
  have hd:code.getD k 0≠code.getD (k+1) 0:=λe=>hn (.inr e)
  refine ⟨k,by rw [qbd];exact hi,?_,swap_own e.ws hi⟩
  rw [q94 e.ws hi,q94 e.ws (show k<code.length by omega)]
  intro he;obtain ⟨q0,q1⟩:=Cod.q99 hin (show k<code.length by omega)
  have:=Cod.word_inj hv (show (code.getD k 0).toNat<e.ws.length by omega) (show (code.getD (k+1) 0).toNat<e.ws.length by omega) he
  omega
theorem q4p {e:Cod.Ear} {book:List Cod.Giv} (h:e.proper book=true) {g:Cod.Giv} (hg:g∈book):e.ok=true∧Cod.q1q e.lang e.ws g.2.1=true:=by
 obtain ⟨h1,_,h3,_⟩:=Cod.q6i.1 h;have:=h3 g hg;unfold Cod.okG at this;simp only [Bool.and_eq_true] at this;exact ⟨h1,this.2.2⟩
theorem qjk {e:Cod.Ear} {book:List Cod.Giv} (h:e.proper book=true) {g o:Cod.Giv} (hg:g∈book) (ho:o∈book):g=o∨e.two g o:=by
 obtain ⟨i,hi,rfl⟩:=List.getElem_of_mem hg;obtain ⟨k,hk,rfl⟩:=List.getElem_of_mem ho;by_cases hik:i=k
 ·subst hik;exact .inl rfl
 ·right
  have:=Cod.proper_two h Cod.noG hi hk hik
  rwa [List.getD_eq_getElem?_getD,List.getD_eq_getElem?_getD,List.getElem?_eq_getElem hi,List.getElem?_eq_getElem hk] at this
theorem find_exact {e:Cod.Ear} {book:List Cod.Giv} (h:e.proper book=true) {g:Cod.Giv} (hg:g∈book):book.find? (qby e.ws (ownW e.ws g.2.1))=some g:=by
 have hex:qby e.ws (ownW e.ws g.2.1) g=true:=beq_self_eq_true _;cases hf:book.find? (qby e.ws (ownW e.ws g.2.1)) with
 | none=>exact absurd hex (List.find?_eq_none.1 hf g hg)
 | some o =>
  have ho:=List.mem_of_find?_eq_some hf;have hoe:=List.find?_some hf;obtain ⟨hok,hgc⟩:=q4p h hg;obtain ⟨_,hoc⟩:=q4p h ho;obtain ⟨hv,_,hgi⟩:=Cod.q6a hgc;obtain ⟨_,_,hoi⟩:=Cod.q6a hoc;have he:=own_inj hv hoi hgi (eq_of_beq hoe);rcases qjk h ho hg with rfl | ht
  ·rfl
  ·exact absurd he (Cod.q5c.1 ht.2).1
theorem find_mistake {e:Cod.Ear} {book:List Cod.Giv} (h:e.proper book=true) {g:Cod.Giv} (hg:g∈book) {x:List Int} (hx:x∈e.miss g.2.1):book.find? (qby e.ws (ownW e.ws x))=none:=by
 rw [List.find?_eq_none];intro o ho hoe;obtain ⟨hok,hgc⟩:=q4p h hg;obtain ⟨_,hoc⟩:=q4p h ho;obtain ⟨hv,_,hoi⟩:=Cod.q6a hoc;have he:=own_inj hv hoi (miss_in hok hgc hx) (eq_of_beq hoe);rcases qjk h hg ho with rfl | ht
 ·exact Cod.miss_ne hx he.symm
 ·exact (Cod.q5c.1 ht.2).2.1 (by rw [he];exact hx)
theorem hear_said {e:Cod.Ear} {book:List Cod.Giv} (h:e.proper book=true) {l:List Int} (h0:l≠[]) (h5:l.length≤5) (hl:Cod.inB e.ws.length l=true):q0w e book (Cod.q2w e.ws l)=q0i (q06 e) e.ws (ownW e.ws l) book []:=by
 obtain ⟨hok,_⟩:=Cod.q6i.1 h;unfold q0w;rw [h,qf0 (Cod.ok_out hok).1 h0 h5 hl];rfl
theorem never_exact {e:Cod.Ear} {book:List Cod.Giv} (h:e.proper book=true) {g:Cod.Giv} (hg:g∈book):q0i (q06 e) e.ws (ownW e.ws g.2.1) book []=(g.1,false,0):=by
 rw [qg0,find_exact h hg]
theorem ql5 {e:Cod.Ear} {book:List Cod.Giv} (h:e.proper book=true) {g:Cod.Giv} (hg:g∈book) {x:List Int} (hx:x∈e.miss g.2.1):q0i (q06 e) e.ws (ownW e.ws x) book []=(g.1,true,0)∨q0i (q06 e) e.ws (ownW e.ws x) book []=([],false,8):=by
 rw [qg0,find_mistake h hg hx,List.nil_append];obtain ⟨hok,hgc⟩:=q4p h hg;have hw:g.1∈doorsB (q06 e) e.ws (ownW e.ws x) book:=List.mem_map.2 ⟨g,List.mem_filter.2 ⟨hg,ql3 hok hgc hx⟩,rfl⟩;dsimp only
 match hd:doorsB (q06 e) e.ws (ownW e.ws x) book with
 | []=>rw [hd] at hw;cases hw
 | [d] =>
  rw [hd,List.mem_singleton] at hw;subst hw;exact .inl rfl
 | _::_::_=>exact .inr rfl
theorem miss_said {e:Cod.Ear} (h:e.ok=true) {code x:List Int} (hc:Cod.q1q e.lang e.ws code=true) (hx:x∈e.miss code):x≠[]∧x.length≤5∧Cod.inB e.ws.length x=true:=by
 obtain ⟨_,hl,_⟩:=Cod.q6a hc;have:=Cod.qjf hx;refine ⟨λe'=>?_,by omega,miss_in h hc hx⟩
 rw [e'] at this;simp at this;omega
theorem code_said {lang:Str} {ws:List Str} {code:List Int} (hc:Cod.q1q lang ws code=true):code≠[]∧code.length≤5∧Cod.inB ws.length code=true:=by
 obtain ⟨_,hl,hi⟩:=Cod.q6a hc;refine ⟨λe'=>?_,by omega,hi⟩
 rw [e'] at hl;simp at hl
end Hea
namespace Hea
end Hea
open Go.RowKit R
namespace R
def Get.slOf (fs:Kds) (t:Nat) (st:St):List fs.Pay:=match st.get t with
 | .c (.one (.val (.sl fs') xs))=>match fs'.deq fs with
  | some ⟨h⟩=>q3a h xs
  | none=>[]
 | _=>[]
end R
def upL:Up:={ o:=19000,fr:=[(76,[5,8,10,12])],box:=[5,8,10],maps:=[] }
def cHear:Con:=.of 18 [ckWl,ckCf,q87,q3c] [q3c,q3d,ckErr1] (λp=>q0y p.1∧q0o p.2.1∧q5k p.2.2.1∧List.length p.2.2.2≤1000) (λp=>Hea.q0w ⟨p.1.1,p.1.2,p.2.1⟩ p.2.2.1 p.2.2.2)
noncomputable def inlHe:List (Nat×Func):=[(50,Tryz.f50),(97,Tryz.f97),(99,Tryz.f99),(140,Tryz.f140),
 (51,Tryz.f51),(107,Tryz.f107),(102,Tryz.f102),(103,Tryz.f103),(104,Tryz.f104),
 (106,Tryz.f106),(145,Tryz.f145)]
noncomputable def kitHe:Kit:={ cons:=[qbf,cAlike,cCut,cEqS.lent],ns:=[nCloneS],os:=[qiu],fcs:=[fOdd],inls:=inlHe }
def q65 (l:List (List UInt8)):Row:=⟨9,kS,l⟩
def R.Get.rowS (r:Nat) (st:St):List (List UInt8):=match st.row r with
 | some y=>match y.fs.deq kS with
  | some ⟨h⟩=>q3a h y.xs
  | none=>[]
 | none=>[]
structure Hf where
 L:Nat
 F:Nat
 upL:List (Nat×List Nat)
 upF:List (Nat×List Nat)
 boxL:List Nat
def Hf.wr (h:Hf):Nat:=(h.L+1)*1000+742
def Hf.dr (h:Hf):Nat:=h.F+60
def Hf.or_ (h:Hf):Nat:=h.F+43
def Hf.sBox (h:Hf):List Nat:=[h.L+11,h.L+2,h.F+4]
def R.keepRows (l:List Nat) (st:St):List (Nat×Row):=l.map λr=>(r,q65 (Get.rowS r st))
def q48 (text:List UInt8) (more:Bool) (rest:List UInt8) (w:List (List UInt8)):Prop :=
 Hea.cutW text=(if more then w++Hea.cutW rest else w)∧w.all Hea.q47=true∧w.length≤5∧rest.length≤text.length
def anWords (h:Hf) (text:List UInt8):List (Nat×Ann) :=
 [annX 0 (Bool×List UInt8×List (List UInt8))
  (λst p=>st.hd { live:=[0,1],sav:=savK 0 ((46,[4,5,6])::h.upL),box:=[h.L+2,h.L+4,h.L+5,h.L+6]++h.boxL,lp:=[4,5,6] } [(3,bool p.1)]
   [((h.L+14)*1000+1,[.val .str p.2.1]),(h.L+11,[.own h.wr,.clo 97 0 [(h.L+2,0)]])] [(h.wr,q65 p.2.2)] [] none)
  (λ_ p=>q48 text p.1 p.2.1 p.2.2)
  (λ_ p=>if p.1 then p.2.1.length+1 else 0)]
def anListen:List (Nat×Ann):=[qai 7]
def anFindH (h:Hf) (bk:List (Nat×Row)) (e:Cod.Ear) (book:q0d):List (Nat×Ann) :=
 [annX 0 (Nat×List (List UInt8))
  (λst p=>st.hd { live:=[0,4,10,23],sav:=savK 0 h.upF,box:=h.sBox } [(25,R.int .i64 p.1),(9,ownAV h.dr),(24,R.int .i64 book.length)] [] ([(h.wr,q65 (Get.rowS h.wr st)),(h.dr,q65 p.2)]++bk) [] none)
  (λst p=>p.1≤book.length∧p.2.length≤p.1∧Hea.q0i (Hea.q06 e) e.ws (Get.rowS h.wr st) book []=Hea.q0i (Hea.q06 e) e.ws (Get.rowS h.wr st) (book.drop p.1) p.2)
  (λ_ p=>book.length-p.1),
 annX 2 (Nat×List (List UInt8))
  (λst p=>st.hd { live:=[0,4,9,10,12,13,23,24,25,30,31],sav:=savK 0 h.upF,box:=h.sBox++[h.F+12] } [(32,R.int .i64 p.1)] [(h.F+13,[.own h.or_])] ((h.or_,q65 p.2)::(keepRows [h.wr,h.dr] st++bk)) [] none)
  (λst p=>p.1≤(Get.slOf (.one (.int .i64)) 30 st).length∧p.2=Hea.ownW e.ws ((Get.slOf (.one (.int .i64)) 30 st).take p.1))
  (λst p=>(Get.slOf (.one (.int .i64)) 30 st).length-p.1),
 qai 10,qai 12]
def Hf.sav (h:Hf) (ahead:List (Nat×List Nat)):List Nat:=savK 0 (ahead++[(9,[]),(71,[0,4,9,10,12,23,24,25])]++h.upF)
def Hf.rows (h:Hf) (bk:List (Nat×Row)) (st:St):List (Nat×Row):=keepRows [h.wr,h.dr,h.or_] st++bk
def anIndexH (h:Hf) (bk:List (Nat×Row)) (e:Cod.Ear):List (Nat×Ann) :=
 [annX 0 Nat
  (λst p=>st.hd { live:=[0,1,7],sav:=h.sav [],box:=h.sBox++[h.F+12,h.F+13] } [(8,R.int .i64 p)] [] (h.rows bk st) [] none)
  (λst p=>p≤3∧(1≤p→Hea.q3k (Hea.q06 e) (Get.rowS h.or_ st) (Get.rowS h.wr st)=false)∧(2≤p→Hea.q3v (Get.rowS h.or_ st) (Get.rowS h.wr st)=false)∧(3≤p→Hea.q3u (Get.rowS h.or_ st) (Get.rowS h.wr st)=false))
  (λ_ p=>3-p)]
def Hf.savW (h:Hf):List Nat:=h.sav [(7,[]),(19,[0,1,5,7,8])]
def Hf.boxW (h:Hf):List Nat:=h.sBox++[h.F+12,h.F+13]
def anReplH (h:Hf) (bk:List (Nat×Row)) (e:Cod.Ear):List (Nat×Ann) :=
 [annX 0 (Nat×Nat)
  (λst p=>st.hd { live:=[0,1,19,20],sav:=h.savW,box:=h.boxW } [(21,R.int .i64 p.1),(5,R.int .i64 p.2)] [] (h.rows bk st) [] none)
  (λst p=>p.1≤(Get.rowS h.wr st).length∧p.2=(Hea.diff ((Get.rowS h.or_ st).take p.1) ((Get.rowS h.wr st).take p.1)).length∧(Hea.diff ((Get.rowS h.or_ st).take p.1) ((Get.rowS h.wr st).take p.1)).all (λq=>Hea.q06 e q.1 q.2)=true)
  (λst p=>(Get.rowS h.wr st).length-p.1),
 qai 9]
def anMissH (h:Hf) (bk:List (Nat×Row)):List (Nat×Ann) :=
 [annX 0 Nat
  (λst p=>st.hd { live:=[0,1,7],sav:=h.savW,box:=h.boxW } [(8,R.int .i64 p)] [] (h.rows bk st) [] none)
  (λst p=>p≤(Get.rowS h.or_ st).length∧∀ i,i<p→((Get.rowS h.or_ st).eraseIdx i==Get.rowS h.wr st)=false)
  (λst p=>(Get.rowS h.or_ st).length-p),
 qai 4]
def anExchH (h:Hf) (bk:List (Nat×Row)):List (Nat×Ann) :=
 [annX 0 Nat
  (λst p=>st.hd { live:=[0,1,9],sav:=h.savW,box:=h.boxW } [(10,R.int .i64 p)] [] (h.rows bk st) [] none)
  (λst p=>p≤(Get.rowS h.or_ st).length-1∧∀ i,i<p→(Hea.q15 (Get.rowS h.or_ st) i==Get.rowS h.wr st&&(Get.rowS h.or_ st).getD i [] != (Get.rowS h.or_ st).getD (i+1) [])=false)
  (λst p=>(Get.rowS h.or_ st).length-1-p),
 annX 2000006 Unit
  (λst _=>st.hd { live:=[0,1,5,6,9,10],sav:=h.savW,box:=h.boxW } [] [] (((st.off+15)*1000,q65 (Hea.q15 (Get.rowS h.or_ st) (st.intOf 5).toNat))::h.rows bk st) [] none)
  (λ_ _=>True)
  (λ_ _=>0),
 qai 6]
def anHe (h:Hf) (bk:List (Nat×Row)) (e:Cod.Ear) (book:q0d) (text:List UInt8):Nat→List (Nat×Ann):=λf =>
 bif Nat.beq f 140 then anWords h text
 else bif Nat.beq f 50 then anListen
 else bif Nat.beq f 51 then anFindH h bk e book
 else bif Nat.beq f 145 then anIndexH h bk e
 else bif Nat.beq f 102 then anReplH h bk e
 else bif Nat.beq f 103 then anMissH h bk
 else bif Nat.beq f 104 then anExchH h bk
 else []
def hfHear:Hf:={ L:=22000,F:=30000,upL:=[(33,[2,4])],upF:=[],boxL:=[4] }
namespace Hea
theorem diff_snoc:∀ {a b:List Str} (x y:Str),a.length=b.length→diff (a++[x]) (b++[y])=diff a b++(if x==y then [] else [(x,y)])
 | [],[],x,y,_=>by
  show diff [x] [y]=_;rw [diff];split <;> rfl
 | [],_::_,_,_,h=>by cases h
 | _::_,[],_,_,h=>by cases h
 | u::a,v::b,x,y,h=>by
  rw [List.cons_append,List.cons_append,diff,diff,diff_snoc x y (by simpa using h)]
  split
  ·rfl
  ·rfl
theorem diff_step {own words:List Str} {k:Nat} (h1:k<own.length) (h2:k<words.length):diff (own.take (k+1)) (words.take (k+1))=diff (own.take k) (words.take k)++(if own.getD k []==words.getD k [] then [] else [(own.getD k [],words.getD k [])]):=by
 rw [Snd.q1f own [] k h1,Snd.q1f words [] k h2,diff_snoc _ _ (by rw [List.length_take,List.length_take];omega)]
theorem diff_mem {a b:List Str} {p:Str×Str}:∀ {k:Nat},p∈diff (a.take k) (b.take k)→p∈diff a b:=by
 intro k
 induction a generalizing b k with
 | nil=>intro h;rw [List.take_nil] at h;exact h
 | cons x a ih =>
  cases b with
  | nil=>intro h;rw [List.take_nil] at h;cases k <;> cases h
  | cons y b =>
   cases k with
   | zero=>intro h;cases h
   | succ k =>
    intro h;rw [List.take_succ_cons,List.take_succ_cons,diff] at h;rw [diff];split
    ·rename_i hxy
     rw [if_pos hxy] at h;exact ih h
    ·rename_i hxy
     rw [if_neg hxy] at h;rcases List.mem_cons.1 h with rfl | h
     ·exact List.mem_cons_self
     ·exact List.mem_cons_of_mem _ (ih h)
theorem diff_at {own words:List Str} {k:Nat} (h1:k<own.length) (h2:k<words.length) (hne:(words.getD k []==own.getD k [])=false):(own.getD k [],words.getD k [])∈diff own words:=by
 refine diff_mem (k:=k+1) ?_;rw [diff_step h1 h2];refine List.mem_append_right _ ?_;have:(own.getD k []==words.getD k [])=false:=by
  rw [beq_eq_false_iff_ne] at hne ⊢;exact λe=>hne e.symm
 rw [this];exact List.mem_singleton.2 rfl
theorem repl_part (e:Cod.Ear) (own words:List Str) {Y N:Prop} (hc:q0o e.c) (ho:∀ s∈own,s.length≤1000000) (hs:∀ s∈words,s.length≤1000000) (hw:words.length≤1000000) (hY:q3k (q06 e) own words=true→Y) (hN:q3k (q06 e) own words=false→N) :
  bif (own.length:Int) != (words.length:Int) then N else
   (∃ p':Nat×Nat,(p'.1≤words.length∧p'.2=(diff (own.take p'.1) (words.take p'.1)).length∧((diff (own.take p'.1) (words.take p'.1)).all λq:Str×Str=>q06 e q.1 q.2)=true)∧(0:Int)=(p'.1:Int)∧(0:Int)=(p'.2:Int)) ∧
   ∀ p4:Nat×Nat,p4.1≤words.length∧p4.2=(diff (own.take p4.1) (words.take p4.1)).length∧((diff (own.take p4.1) (words.take p4.1)).all λq:Str×Str=>q06 e q.1 q.2)=true →
    bif decide ((p4.1:Int)<(words.length:Int)) then
     ((0:Int)≤(p4.1:Int)∧(p4.1:Int)<(words.length:Int))∧((0:Int)≤(p4.1:Int)∧(p4.1:Int)<(own.length:Int)) ∧
     bif !(words.getD (p4.1:Int).toNat []==own.getD (p4.1:Int).toNat []) then
      ((-9223372036854775808:Int)≤(p4.2:Int)+1∧(p4.2:Int)+1≤(9223372036854775807:Int))∧((0:Int)≤(p4.1:Int)∧(p4.1:Int)<(own.length:Int)) ∧
      (q0o e.c∧(own.getD (p4.1:Int).toNat []).length≤(1000000:Nat)∧(words.getD (p4.1:Int).toNat []).length≤(1000000:Nat)) ∧
      bif !(Snd.q2a e.c (own.getD (p4.1:Int).toNat []) (words.getD (p4.1:Int).toNat [])) then N else
       ((-9223372036854775808:Int)≤(p4.1:Int)+1∧(p4.1:Int)+1≤(9223372036854775807:Int))∧∃ p':Nat×Nat,(p'.1≤words.length∧p'.2=(diff (own.take p'.1) (words.take p'.1)).length∧((diff (own.take p'.1) (words.take p'.1)).all λq:Str×Str=>q06 e q.1 q.2)=true) ∧
        words.length-p'.1<words.length-p4.1∧(p4.1:Int)+1=(p'.1:Int)∧(p4.2:Int)+1=(p'.2:Int)
     else
      ((-9223372036854775808:Int)≤(p4.1:Int)+1∧(p4.1:Int)+1≤(9223372036854775807:Int))∧∃ p':Nat×Nat,(p'.1≤words.length∧p'.2=(diff (own.take p'.1) (words.take p'.1)).length∧((diff (own.take p'.1) (words.take p'.1)).all λq:Str×Str=>q06 e q.1 q.2)=true) ∧
       words.length-p'.1<words.length-p4.1∧(p4.1:Int)+1=(p'.1:Int)∧(p4.2:Int)=(p'.2:Int)
    else bif (p4.2:Int)==(1:Int) then Y else N:=by
 refine bifP (λhb=>hN ?_) λhb=>?_
 ·unfold q3k
  have:(own.length==words.length)=false:=by
   rw [beq_eq_false_iff_ne];rw [bne_iff_ne] at hb;omega
  rw [this,Bool.false_and]
 have hl:own.length=words.length:=by
  have:((own.length:Int)==(words.length:Int))=true:=by
   unfold bne at hb;simpa using hb
  have:=eq_of_beq this;omega
 refine ⟨⟨(0,0),⟨Nat.zero_le _,rfl,rfl⟩,rfl,rfl⟩,?_⟩;rintro ⟨k,n⟩ ⟨hk,hn,ha⟩;have hk:k≤words.length:=hk;have hn:n=(diff (own.take k) (words.take k)).length:=hn;have hti:((k:Int).toNat)=k:=rfl;dsimp only;rw [hti];refine bifP (λhb=>?_) λhb=>?_
 ·have hkw:k<words.length:=by have:=of_decide_eq_true hb;omega
  have hko:k<own.length:=by omega
  have hst:=diff_step hko hkw;refine ⟨⟨by omega,by omega⟩,⟨by omega,by omega⟩,bifP (λhb=>?_) λhb=>?_⟩
  ·have hne:(words.getD k []==own.getD k [])=false:=by simpa using hb
   have hne2:(own.getD k []==words.getD k [])=false:=by
    rw [beq_eq_false_iff_ne] at hne ⊢;exact λe=>hne e.symm
   have hnk:n≤k:=by
    have h1:∀ (a b:List Str),(diff a b).length≤a.length:=by
     intro a
     induction a with
     | nil=>intro b;exact Nat.zero_le _
     | cons x a ih =>
      intro b;cases b with
      | nil=>exact Nat.zero_le _
      | cons y b =>
       rw [diff];have:=ih b;split <;> simp only [List.length_cons] <;> omega
    have h2:=h1 (own.take k) (words.take k);rw [List.length_take] at h2;omega
   refine ⟨⟨by omega,by omega⟩,⟨by omega,by omega⟩,⟨hc,ho _ (Snd.q1d own [] k hko),hs _ (Snd.q1d words [] k hkw)⟩,bifP (λhb=>hN ?_) λhb=>⟨⟨by omega,by omega⟩,(k+1,n+1),⟨hkw,?_,?_⟩,?_,by push_cast;rfl,by push_cast;rfl⟩⟩
   ·have hna:Snd.q2a e.c (own.getD k []) (words.getD k [])=false:=by simpa using hb
    unfold q3k;have:(diff own words).all (λp=>q06 e p.1 p.2)=false:=by
     rw [List.all_eq_false];exact ⟨_,diff_at hko hkw hne,by show ¬ Snd.q2a e.c (own.getD k []) (words.getD k [])=true;rw [hna];decide⟩
    rw [this,Bool.false_and,Bool.and_false]
   ·show n+1=_
    rw [hst,hne2,hn,List.length_append];rfl
   ·rw [hst,hne2,List.all_append,ha]
    show (true&&(q06 e (own.getD k []) (words.getD k [])&&true))=true;have:Snd.q2a e.c (own.getD k []) (words.getD k [])=true:=by simpa using hb
    show (true&&(Snd.q2a e.c (own.getD k []) (words.getD k [])&&true))=true;rw [this];rfl
   ·show words.length-(k+1)<words.length-k;omega
  ·have heq:(words.getD k []==own.getD k [])=true:=by simpa using hb
   have heq2:(own.getD k []==words.getD k [])=true:=by rw [beq_iff_eq] at heq ⊢;exact heq.symm
   refine ⟨⟨by omega,by omega⟩,(k+1,n),⟨hkw,?_,?_⟩,?_,by push_cast;rfl,rfl⟩
   ·show n=_
    rw [hst,heq2,hn,if_pos rfl,List.append_nil]
   ·rw [hst,heq2,if_pos rfl,List.append_nil];exact ha
   ·show words.length-(k+1)<words.length-k;omega
 ·have hle:words.length≤k:=by have:=of_decide_eq_false hb;omega
  rw [List.take_of_length_le (show own.length≤k by omega),List.take_of_length_le hle] at hn ha
  have hv:q3k (q06 e) own words=(n==1):=by
   unfold q3k;rw [hl,beq_self_eq_true,Bool.true_and,hn];show ((diff own words).all (λp=>q06 e p.1 p.2)&&_)=_
   rw [show (diff own words).all (λp=>q06 e p.1 p.2)=true from ha,Bool.true_and]
  refine bifP (λhb=>hY ?_) λhb=>hN ?_
  ·rw [hv];have:=eq_of_beq hb;rw [beq_iff_eq];omega
  ·rw [hv];rw [beq_eq_false_iff_ne] at hb ⊢;omega
theorem miss_part (own words:List Str) {Y N:Prop} (hl:own.length≤1000000) (hw:words.length≤1000000) (hY:q3v own words=true→Y) (hN:q3v own words=false→N) :
  (∃ p':Nat,(p'≤own.length∧∀ i:Nat,i<p'→(own.eraseIdx i==words)=false)∧(0:Int)=(p':Int)) ∧
  ∀ p4:Nat,(p4≤own.length∧∀ i:Nat,i<p4→(own.eraseIdx i==words)=false) →
   bif decide ((p4:Int)<(own.length:Int)) then
    ((-9223372036854775808:Int)≤(p4:Int)+1∧(p4:Int)+1≤(9223372036854775807:Int))∧(own.length≤(1000000:Nat)∧(((0:Int)≤(p4:Int)∧(p4:Int)<(own.length:Int))∧((own.eraseIdx (p4:Int).toNat).length≤(1000000:Nat)∧words.length≤(1000000:Nat)) ∧
     bif own.eraseIdx (p4:Int).toNat==words then Y else
      ((-9223372036854775808:Int)≤(p4:Int)+1∧(p4:Int)+1≤(9223372036854775807:Int))∧∃ p':Nat,(p'≤own.length∧∀ i:Nat,i<p'→(own.eraseIdx i==words)=false)∧own.length-p'<own.length-p4∧(p4:Int)+1=(p':Int)) ∧
     ((0:Int)≤(p4:Int)∧(p4:Int)<(own.length:Int))∧((own.eraseIdx (p4:Int).toNat).length≤(1000000:Nat)∧words.length≤(1000000:Nat)) ∧
     bif own.eraseIdx (p4:Int).toNat==words then Y else
      ((-9223372036854775808:Int)≤(p4:Int)+1∧(p4:Int)+1≤(9223372036854775807:Int))∧∃ p':Nat,(p'≤own.length∧∀ i:Nat,i<p'→(own.eraseIdx i==words)=false)∧own.length-p'<own.length-p4∧(p4:Int)+1=(p':Int)) ∧
    own.length≤(1000000:Nat)∧((0:Int)≤(p4:Int)∧(p4:Int)<(own.length:Int))∧((own.eraseIdx (p4:Int).toNat).length≤(1000000:Nat)∧words.length≤(1000000:Nat)) ∧
     bif own.eraseIdx (p4:Int).toNat==words then Y else
      ((-9223372036854775808:Int)≤(p4:Int)+1∧(p4:Int)+1≤(9223372036854775807:Int))∧∃ p':Nat,(p'≤own.length∧∀ i:Nat,i<p'→(own.eraseIdx i==words)=false)∧own.length-p'<own.length-p4∧(p4:Int)+1=(p':Int)
   else N:=by
 refine ⟨⟨0,⟨Nat.zero_le _,λi h=>absurd h (Nat.not_lt_zero _)⟩,rfl⟩,?_⟩
 rintro k ⟨hk,hno⟩;have hti:((k:Int).toNat)=k:=rfl;rw [hti];refine bifP (λhb=>?_) λhb=>hN ?_
 ·have hlt:k<own.length:=by have:=of_decide_eq_true hb;omega
  have he:(own.eraseIdx k).length≤1000000:=by rw [List.length_eraseIdx_of_lt hlt];omega
  have hg:bif own.eraseIdx k==words then Y else
    ((-9223372036854775808:Int)≤(k:Int)+1∧(k:Int)+1≤(9223372036854775807:Int))∧∃ p':Nat,(p'≤own.length∧∀ i:Nat,i<p'→(own.eraseIdx i==words)=false)∧own.length-p'<own.length-k∧(k:Int)+1=(p':Int):=by
   refine bifP (λhb=>hY ?_) λhb=>⟨⟨by omega,by omega⟩,k+1,⟨hlt,λi hi=>?_⟩,by omega,by push_cast;rfl⟩
   ·unfold q3v
    exact List.any_eq_true.2 ⟨k,List.mem_range.2 hlt,hb⟩
   ·by_cases h:i=k
    ·rw [h];exact hb
    ·exact hno i (by omega)
  exact ⟨⟨by omega,by omega⟩,⟨hl,⟨⟨by omega,by omega⟩,⟨he,hw⟩,hg⟩,⟨by omega,by omega⟩,⟨he,hw⟩,hg⟩,hl,⟨by omega,by omega⟩,⟨he,hw⟩,hg⟩
 ·have hle:own.length≤k:=by have:=of_decide_eq_false hb;omega
  unfold q3v;rw [List.any_eq_false];intro i hi;rw [hno i (by have:=List.mem_range.1 hi;omega)]
  decide
theorem swap_len_ (own:List Str) (i:Nat):(q15 own i).length=own.length:=by unfold q15;rw [List.length_set,List.length_set]
theorem exch_part (own words:List Str) {Y N:Prop} (hl:own.length≤1000000) (hw:words.length≤1000000) (hY:q3u own words=true→Y) (hN:q3u own words=false→N) :
  ((-9223372036854775808:Int)≤(own.length:Int)-1∧(own.length:Int)-1≤(9223372036854775807:Int)) ∧
  (∃ p':Nat,(p'≤own.length-1∧∀ i:Nat,i<p'→(q15 own i==words&&own.getD i [] != own.getD (i+1) [])=false)∧(0:Int)=(p':Int)) ∧
  ∀ p4:Nat,(p4≤own.length-1∧∀ i:Nat,i<p4→(q15 own i==words&&own.getD i [] != own.getD (i+1) [])=false) →
   bif decide ((p4:Int)<(own.length:Int)-1) then
    own.length≤(1000000:Nat) ∧
    (((-9223372036854775808:Int)≤(p4:Int)+1∧(p4:Int)+1≤(9223372036854775807:Int))∧((0:Int)≤(p4:Int)+1∧(p4:Int)+1<(own.length:Int))∧((0:Int)≤(p4:Int)∧(p4:Int)<(own.length:Int))∧((0:Int)≤(p4:Int)∧(p4:Int)<(own.length:Int)) ∧
     ((-9223372036854775808:Int)≤(p4:Int)+1∧(p4:Int)+1≤(9223372036854775807:Int)) ∧
     bif (p4:Int).toNat.beq (p4:Int).toNat then
      ((0:Int)≤(p4:Int)+1∧(p4:Int)+1<((own.set (p4:Int).toNat (own.getD ((p4:Int)+1).toNat [])).length:Int)) ∧
      bif ((p4:Int)+1).toNat.beq ((p4:Int)+1).toNat then
       ∃ p':Unit,(own.set (p4:Int).toNat (own.getD ((p4:Int)+1).toNat [])).set ((p4:Int)+1).toNat (own.getD (p4:Int).toNat [])=q15 own (p4:Int).toNat
      else False
     else False) ∧
    ∀ p5:Unit,True →
     ((q15 own (p4:Int).toNat).length≤(1000000:Nat)∧words.length≤(1000000:Nat)) ∧
     bif q15 own (p4:Int).toNat==words then
      ((0:Int)≤(p4:Int)∧(p4:Int)<(own.length:Int))∧((-9223372036854775808:Int)≤(p4:Int)+1∧(p4:Int)+1≤(9223372036854775807:Int))∧((0:Int)≤(p4:Int)+1∧(p4:Int)+1<(own.length:Int)) ∧
      bif !(own.getD (p4:Int).toNat []==own.getD ((p4:Int)+1).toNat []) then Y else
       ((-9223372036854775808:Int)≤(p4:Int)+1∧(p4:Int)+1≤(9223372036854775807:Int))∧∃ p':Nat,(p'≤own.length-1∧∀ i:Nat,i<p'→(q15 own i==words&&own.getD i [] != own.getD (i+1) [])=false)∧own.length-1-p'<own.length-1-p4∧(p4:Int)+1=(p':Int)
     else
      ((-9223372036854775808:Int)≤(p4:Int)+1∧(p4:Int)+1≤(9223372036854775807:Int))∧∃ p':Nat,(p'≤own.length-1∧∀ i:Nat,i<p'→(q15 own i==words&&own.getD i [] != own.getD (i+1) [])=false)∧own.length-1-p'<own.length-1-p4∧(p4:Int)+1=(p':Int)
   else N:=by
 refine ⟨⟨by omega,by omega⟩,⟨0,⟨Nat.zero_le _,λi h=>absurd h (Nat.not_lt_zero _)⟩,rfl⟩,?_⟩
 rintro k ⟨hk,hno⟩;have hti:((k:Int).toNat)=k:=rfl;have hti1:(((k:Int)+1).toNat)=k+1:=by omega
 rw [hti,hti1];refine bifP (λhb=>?_) λhb=>hN ?_
 ·have hlt:k+1<own.length:=by have:=of_decide_eq_true hb;omega
  have hnext:(q15 own k==words&&own.getD k [] != own.getD (k+1) [])=false→((-9223372036854775808:Int)≤(k:Int)+1∧(k:Int)+1≤(9223372036854775807:Int))∧∃ p':Nat,(p'≤own.length-1∧∀ i:Nat,i<p'→(q15 own i==words&&own.getD i [] != own.getD (i+1) [])=false)∧own.length-1-p'<own.length-1-k∧(k:Int)+1=(p':Int):=λhf=>by
   refine ⟨⟨by omega,by omega⟩,k+1,⟨by omega,λi hi=>?_⟩,by omega,by push_cast;rfl⟩
   by_cases h:i=k
   ·rw [h];exact hf
   ·exact hno i (by omega)
  have hbq:∀ n:Nat,n.beq n=true:=λn=>Nat.beq_refl n
  refine ⟨hl,⟨⟨by omega,by omega⟩,⟨by omega,by omega⟩,⟨by omega,by omega⟩,⟨by omega,by omega⟩,⟨by omega,by omega⟩,?_⟩,λ_ _=>⟨⟨by rw [swap_len_];exact hl,hw⟩,bifP (λhb=>?_) λhb=>hnext (by rw [hb];rfl)⟩⟩
  ·rw [hbq,cond_true,hbq,cond_true,List.length_set]
   exact ⟨⟨by omega,by omega⟩,(),rfl⟩
  ·refine ⟨⟨by omega,by omega⟩,⟨by omega,by omega⟩,⟨by omega,by omega⟩,bifP (λhb2=>hY ?_) λhb2=>hnext ?_⟩
   ·unfold q3u
    exact List.any_eq_true.2 ⟨k,List.mem_range.2 (by omega),by rw [hb,Bool.true_and];exact hb2⟩
   ·rw [hb,Bool.true_and];exact hb2
 ·have hle:own.length≤k+1:=by have:=of_decide_eq_false hb;omega
  unfold q3u;rw [List.any_eq_false];intro i hi;rw [hno i (by have:=List.mem_range.1 hi;omega)]
  decide
theorem cut_eq:∀ s:Str,cutW s=if 0≤Lib.indexByte s 32 then (cutF s).1::cutW (cutF s).2.1 else [s]
 | []=>rfl
 | c::r=>by
  have ih:=cut_eq r;have hge:=Lib.indexByte_ge r 32;by_cases hc:(c==32)=true
  ·have hi:Lib.indexByte (c::r) 32=0:=by unfold Lib.indexByte;rw [if_pos hc]
   have hf:cutF (c::r)=([],r,true):=by unfold cutF;rw [hi];rfl
   rw [cutW,if_pos hc,hi,if_pos (Int.le_refl 0),hf]
  ·have hi:Lib.indexByte (c::r) 32=if Lib.indexByte r 32==-1 then -1 else Lib.indexByte r 32+1:=by
    conv=>lhs;unfold Lib.indexByte
    rw [if_neg hc]
   rw [cutW,if_neg hc,ih];by_cases h0:0≤Lib.indexByte r 32
   ·have hb:(Lib.indexByte r 32==-1)=false:=by rw [beq_eq_false_iff_ne];omega
    rw [hb,if_neg (by decide)] at hi
    rw [if_pos h0,hi,if_pos (by omega)]
    obtain ⟨n,hn⟩:=Int.eq_ofNat_of_zero_le h0;unfold cutF;rw [hi,if_pos h0,if_pos (by omega),hn]
    dsimp only;rw [show ((n:Int)+1).toNat=n+1 by omega,show ((n:Int)).toNat=n by omega,List.take_succ_cons,List.drop_succ_cons]
   ·have hm:Lib.indexByte r 32=-1:=by omega
    rw [hm] at hi;rw [if_neg h0,hi];rfl
theorem lis_step {text rest:Str} {w:List Str} (h:q48 text true rest w) (h1:q47 (cutF rest).1=true) (h5:w.length<5):q48 text (cutF rest).2.2 (cutF rest).2.1 (w++[(cutF rest).1]):=by
 obtain ⟨hc,ha,hl,hr⟩:=h;rw [if_pos rfl,cut_eq rest] at hc;refine ⟨?_,by rw [List.all_append,ha,List.all_cons,h1];rfl,by rw [List.length_append,List.length_singleton];omega,?_⟩
 ·by_cases h0:0≤Lib.indexByte rest 32
  ·rw [if_pos h0] at hc
   rw [show (cutF rest).2.2=true by unfold cutF;rw [if_pos h0],if_pos rfl,hc,List.append_assoc];rfl
  ·rw [if_neg h0] at hc
   rw [show (cutF rest).2.2=false by unfold cutF;rw [if_neg h0],if_neg (by decide),hc,show (cutF rest).1=rest by unfold cutF;rw [if_neg h0]]
 ·refine Nat.le_trans ?_ hr
  unfold cutF;split
  ·dsimp only;rw [List.length_drop];omega
  ·exact Nat.zero_le _
theorem lis_less {rest:Str}:(if (cutF rest).2.2=true then (cutF rest).2.1.length+1 else 0)<rest.length+1:=by
 unfold cutF;by_cases h0:0≤Lib.indexByte rest 32
 ·rw [if_pos h0]
  dsimp only;rw [if_pos rfl,List.length_drop];obtain ⟨n,hn⟩:=Int.eq_ofNat_of_zero_le h0;have h3:=(Lib.indexByte_some hn).1;have h4:n<rest.length:=(List.getElem?_eq_some_iff.1 h3).1;omega
 ·rw [if_neg h0]
  dsimp only;rw [if_neg (by decide)];omega
theorem lis_bad {text rest:Str} {w:List Str} (h:q48 text true rest w) (h1:q47 (cutF rest).1=false∨w.length=5):q7b text=none:=by
 obtain ⟨hc,ha,hl,hr⟩:=h;rw [if_pos rfl,cut_eq rest] at hc;unfold q7b;rw [if_neg];rw [Bool.and_eq_true,decide_eq_true_eq];rintro ⟨q1,q2⟩;by_cases h0:0≤Lib.indexByte rest 32
 ·rw [if_pos h0] at hc
  rw [hc] at q1 q2;rw [List.all_append,List.all_cons,Bool.and_eq_true,Bool.and_eq_true] at q1;rw [List.length_append,List.length_cons] at q2;rcases h1 with h1 | h1
  ·rw [h1] at q1;exact absurd q1.2.1 (by decide)
  ·omega
 ·rw [if_neg h0] at hc
  have hf:(cutF rest).1=rest:=by unfold cutF;rw [if_neg h0]
  rw [hc] at q1 q2;rw [List.all_append,List.all_cons,Bool.and_eq_true,Bool.and_eq_true] at q1;rw [List.length_append,List.length_cons] at q2;rcases h1 with h1 | h1
  ·rw [hf] at h1;rw [h1] at q1;exact absurd q1.2.1 (by decide)
  ·omega
theorem lis_end {text rest:Str} {w:List Str} (h:q48 text false rest w):q7b text=some w:=by
 obtain ⟨hc,ha,hl,hr⟩:=h;rw [if_neg (by decide)] at hc
 unfold q7b;rw [hc,ha,decide_eq_true hl];rfl
theorem word_of {s:Str} (h1:(s.any λc=>!Snd.letB c)=false) (h2:(s==[])=false) (h3:¬ (12:Int)<(s.length:Int)):q47 s=true:=by
 unfold q47;simp only [Bool.and_eq_true,decide_eq_true_eq,Bool.not_eq_true',List.isEmpty_eq_false_iff];refine ⟨by rw [beq_eq_false_iff_ne] at h2;exact h2,by omega,?_⟩
 rw [List.all_eq_true];intro c hc;rw [List.any_eq_false] at h1;have:=h1 c hc;unfold Snd.letB at this
 simpa using this
theorem q9m {s:Str} (h:(s.any λc=>!Snd.letB c)=true∨(s==[])=true∨(12:Int)<(s.length:Int)):q47 s=false:=by
 rw [← Bool.not_eq_true];unfold q47;simp only [Bool.and_eq_true,decide_eq_true_eq,Bool.not_eq_true',List.isEmpty_eq_false_iff];rintro ⟨h1,h2,h3⟩;rcases h with h | h | h
 ·obtain ⟨c,hc,hn⟩:=List.any_eq_true.1 h
  rw [List.all_eq_true] at h3;have:=h3 c hc;unfold Snd.letB at hn;rw [Bool.not_eq_true',Bool.and_eq_false_iff,decide_eq_false_iff_not,decide_eq_false_iff_not] at hn;simp only [Bool.and_eq_true,decide_eq_true_eq] at this;omega
 ·exact h1 (eq_of_beq h)
 ·omega
end Hea
theorem ownH_snoc (ws:List (List UInt8)) (code:List Int) (k:Nat) (hk:k<code.length):Hea.ownW ws (code.take k)++[ws.getD (code.getD k 0).toNat []]=Hea.ownW ws (code.take (k+1)):=by
 rw [Snd.q1f code 0 k hk];unfold Hea.ownW;rw [List.map_append];rfl
theorem ownH_long (ws:List (List UInt8)) (h:∀ s∈ws,s.length≤1000000) (code:List Int):∀ s∈Hea.ownW ws code,s.length≤1000000:=by
 intro s hs;obtain ⟨i,_,rfl⟩:=List.mem_map.1 hs;by_cases hi:i.toNat<ws.length
 ·exact h _ (Snd.q1d ws [] _ hi)
 ·rw [List.getD_eq_getElem?_getD,List.getElem?_eq_none (by omega)];exact Nat.zero_le _
set_option maxRecDepth 100000 in
theorem qkf (e:Cod.Ear) (book:q0d) (w:List (List UInt8)) (R:List UInt8×Bool×Int) (m:Nat) (hm:m=3) (hp:e.proper book=true) (hC:q0o e.c) (hW:∀ s∈e.ws,s.length≤1000000) (hw:w.length≤5) (hwl:∀ s∈w,s.length≤1000000) (hB:book.length≤1000000) (hR:R=Hea.q0i (Hea.q06 e) e.ws w book []) :
  (∃ (p':Nat×List (List UInt8)),(p'.1≤List.length book∧p'.2.length≤p'.1∧Hea.q0i (Hea.q06 e) e.ws w book []=Hea.q0i (Hea.q06 e) e.ws w (List.drop p'.1 book) p'.2)∧(0
  : Int)=(p'.1:Int)∧p'.2=[])∧∀ (p_1:Nat×List (List UInt8)),p_1.1≤List.length book∧p_1.2.length≤p_1.1∧Hea.q0i (Hea.q06 e) e.ws w book []=Hea.q0i (Hea.q06 e)
  e.ws w (List.drop p_1.1 book) p_1.2→bif decide ((p_1.1:Int)<(↑(List.length book):Int)) then ((0:Int)≤(p_1.1:Int)∧(p_1.1:Int)<(↑(List.length book):Int))∧(∃ (p' :
  Nat×List (List UInt8)),(p'.1≤(List.getD book (p_1.1:Int).toNat Cod.noG).2.1.length∧p'.2=Hea.ownW e.ws (List.take p'.1 (List.getD book (p_1.1:Int).toNat Cod.noG).2.1))∧(0 :
  Int)=(p'.1:Int)∧p'.2=[])∧∀ (p_2:Nat×List (List UInt8)),p_2.1≤(List.getD book (p_1.1:Int).toNat Cod.noG).2.1.length∧p_2.2=Hea.ownW e.ws (List.take p_2.1 (List.getD
  book (p_1.1:Int).toNat Cod.noG).2.1)→bif decide ((p_2.1:Int)<(↑(List.getD book (p_1.1:Int).toNat Cod.noG).2.1.length:Int)) then ((0:Int)≤(p_2.1:Int)∧(p_2.1:Int) <
  (↑(List.getD book (p_1.1:Int).toNat Cod.noG).2.1.length:Int))∧((0:Int)≤(List.getD book (p_1.1:Int).toNat Cod.noG).2.1.getD (p_2.1:Int).toNat (0:Int)∧(List.getD book
  (p_1.1:Int).toNat Cod.noG).2.1.getD (p_2.1:Int).toNat (0:Int)<(e.ws.length:Int))∧(p_2.2.length+[e.ws.getD ((List.getD book (p_1.1:Int).toNat Cod.noG).2.1.getD (↑p_2.1 :
  Int).toNat (0:Int)).toNat []].length)*(16:Nat)≤(140737488355328:Nat)∧((-9223372036854775808:Int)≤(p_2.1:Int)+(1:Int)∧(p_2.1:Int)+(1:Int) ≤
  (9223372036854775807:Int))∧∃ (p':Nat×List (List UInt8)),(p'.1≤(List.getD book (p_1.1:Int).toNat Cod.noG).2.1.length∧p'.2=Hea.ownW e.ws (List.take p'.1 (List.getD book
  (p_1.1:Int).toNat Cod.noG).2.1))∧(List.getD book (p_1.1:Int).toNat Cod.noG).2.1.length-p'.1<(List.getD book (p_1.1:Int).toNat Cod.noG).2.1.length-p_2.1∧(p_2.1:Int)+(1
  : Int)=(p'.1:Int)∧p_2.2++[e.ws.getD ((List.getD book (p_1.1:Int).toNat Cod.noG).2.1.getD (p_2.1:Int).toNat (0:Int)).toNat []]=p'.2 else (p_2.2.length≤(1000000:Nat) ∧
  w.length≤(1000000:Nat))∧bif p_2.2==w then ((List.getD book (p_1.1:Int).toNat Cod.noG).1,false,(0:Int))=R else (∃ (p':Nat),(p'≤(3:Nat)∧((1:Nat)≤p'→Hea.q3k
  (Hea.q06 e) p_2.2 w=false)∧((2:Nat)≤p'→Hea.q3v p_2.2 w=false)∧((3:Nat)≤p'→Hea.q3u p_2.2 w=false))∧(0:Int)=(p':Int))∧∀ (p_3:Nat),p_3≤(3:Nat) ∧
  ((1:Nat)≤p_3→Hea.q3k (Hea.q06 e) p_2.2 w=false)∧((2:Nat)≤p_3→Hea.q3v p_2.2 w=false)∧((3:Nat)≤p_3→Hea.q3u p_2.2 w=false)→bif decide ((p_3:Int)<(↑m
  : Int)) then ((0:Int)≤(p_3:Int)∧(p_3:Int)<(m:Int))∧((p_3:Int)=(0:Int)→bif (p_2.2.length:Int) != (w.length:Int) then ((-9223372036854775808:Int)≤(↑p_3 :
  Int)+(1:Int)∧(p_3:Int)+(1:Int)≤(9223372036854775807:Int))∧∃ (p':Nat),(p'≤(3:Nat)∧((1:Nat)≤p'→Hea.q3k (Hea.q06 e) p_2.2 w=false)∧((2:Nat)≤p' →
  Hea.q3v p_2.2 w=false)∧((3:Nat)≤p'→Hea.q3u p_2.2 w=false))∧(3:Nat)-p'<(3:Nat)-p_3∧(p_3:Int)+(1:Int)=(p':Int) else (∃ (p':Nat×Nat),(p'.1 ≤
  w.length∧p'.2=(Hea.diff (List.take p'.1 p_2.2) (List.take p'.1 w)).length∧((Hea.diff (List.take p'.1 p_2.2) (List.take p'.1 w)).all λ(q:Hea.Str×Hea.Str)=>Hea.q06 e q.1 q.2)
  = true)∧(0:Int)=(p'.1:Int)∧(0:Int)=(p'.2:Int))∧∀ (p_4:Nat×Nat),p_4.1≤w.length∧p_4.2=(Hea.diff (List.take p_4.1 p_2.2) (List.take p_4.1 w)).length∧((Hea.diff
  (List.take p_4.1 p_2.2) (List.take p_4.1 w)).all λ(q:Hea.Str×Hea.Str)=>Hea.q06 e q.1 q.2)=true→bif decide ((p_4.1:Int)<(w.length:Int)) then ((0:Int)≤(↑p_4.1 :
  Int)∧(p_4.1:Int)<(w.length:Int))∧((0:Int)≤(p_4.1:Int)∧(p_4.1:Int)<(p_2.2.length:Int))∧bif !w.getD (p_4.1:Int).toNat []==p_2.2.getD (p_4.1:Int).toNat []
  then ((-9223372036854775808:Int)≤(p_4.2:Int)+(1:Int)∧(p_4.2:Int)+(1:Int)≤(9223372036854775807:Int))∧((0:Int)≤(p_4.1:Int)∧(p_4.1:Int)<(↑p_2.2.length :
  Int))∧(q0o e.c∧(p_2.2.getD (p_4.1:Int).toNat []).length≤(1000000:Nat)∧(w.getD (p_4.1:Int).toNat []).length≤(1000000:Nat))∧bif !Snd.q2a e.c (p_2.2.getD (↑p_4.1 :
  Int).toNat []) (w.getD (p_4.1:Int).toNat []) then ((-9223372036854775808:Int)≤(p_3:Int)+(1:Int)∧(p_3:Int)+(1:Int)≤(9223372036854775807:Int))∧∃ (p':Nat),(p' ≤
  (3:Nat)∧((1:Nat)≤p'→Hea.q3k (Hea.q06 e) p_2.2 w=false)∧((2:Nat)≤p'→Hea.q3v p_2.2 w=false)∧((3:Nat)≤p'→Hea.q3u p_2.2 w=false))∧(3:Nat)-p'<(3 :
  Nat)-p_3∧(p_3:Int)+(1:Int)=(p':Int) else ((-9223372036854775808:Int)≤(p_4.1:Int)+(1:Int)∧(p_4.1:Int)+(1:Int)≤(9223372036854775807:Int))∧∃ (p':Nat
  × Nat),(p'.1≤w.length∧p'.2=(Hea.diff (List.take p'.1 p_2.2) (List.take p'.1 w)).length∧((Hea.diff (List.take p'.1 p_2.2) (List.take p'.1 w)).all λ(q:Hea.Str×Hea.Str) =>
  Hea.q06 e q.1 q.2)=true)∧w.length-p'.1<w.length-p_4.1∧(p_4.1:Int)+(1:Int)=(p'.1:Int)∧(p_4.2:Int)+(1:Int)=(p'.2:Int) else ((-9223372036854775808 :
  Int)≤(p_4.1:Int)+(1:Int)∧(p_4.1:Int)+(1:Int)≤(9223372036854775807:Int))∧∃ (p':Nat×Nat),(p'.1≤w.length∧p'.2=(Hea.diff (List.take p'.1 p_2.2) (List.take p'.1
  w)).length∧((Hea.diff (List.take p'.1 p_2.2) (List.take p'.1 w)).all λ(q:Hea.Str×Hea.Str)=>Hea.q06 e q.1 q.2)=true)∧w.length-p'.1<w.length-p_4.1∧(p_4.1:Int)+(1
  : Int)=(p'.1:Int)∧(p_4.2:Int)=(p'.2:Int) else bif (p_4.2:Int)==(1:Int) then (p_1.2.length+[(List.getD book (p_1.1:Int).toNat Cod.noG).1].length)*(16:Nat) ≤
  (140737488355328:Nat)∧((-9223372036854775808:Int)≤(p_1.1:Int)+(1:Int)∧(p_1.1:Int)+(1:Int)≤(9223372036854775807:Int))∧∃ (p':Nat×List (List UInt8)),(p'.1 ≤
  List.length book∧p'.2.length≤p'.1∧Hea.q0i (Hea.q06 e) e.ws w book []=Hea.q0i (Hea.q06 e) e.ws w (List.drop p'.1 book) p'.2)∧List.length book-p'.1<List.length book -
  p_1.1∧(p_1.1:Int)+(1:Int)=(p'.1:Int)∧p_1.2++[(List.getD book (p_1.1:Int).toNat Cod.noG).1]=p'.2 else ((-9223372036854775808:Int)≤(p_3:Int)+(1:Int)∧(↑p_3 :
  Int)+(1:Int)≤(9223372036854775807:Int))∧∃ (p':Nat),(p'≤(3:Nat)∧((1:Nat)≤p'→Hea.q3k (Hea.q06 e) p_2.2 w=false)∧((2:Nat)≤p'→Hea.q3v p_2.2 w=false) ∧
  ((3:Nat)≤p'→Hea.q3u p_2.2 w=false))∧(3:Nat)-p'<(3:Nat)-p_3∧(p_3:Int)+(1:Int)=(p':Int))∧((p_3:Int)=(1:Int)→(∃ (p':Nat),(p'≤p_2.2.length∧∀
  (i:Nat),i<p'→(p_2.2.eraseIdx i==w)=false)∧(0:Int)=(p':Int))∧∀ (p_4:Nat),(p_4≤p_2.2.length∧∀ (i:Nat),i<p_4→(p_2.2.eraseIdx i==w)=false)→bif decide
  ((p_4:Int)<(p_2.2.length:Int)) then ((-9223372036854775808:Int)≤(p_4:Int)+(1:Int)∧(p_4:Int)+(1:Int)≤(9223372036854775807:Int))∧(p_2.2.length≤(1000000 :
  Nat)∧(((0:Int)≤(p_4:Int)∧(p_4:Int)<(p_2.2.length:Int))∧((p_2.2.eraseIdx (p_4:Int).toNat).length≤(1000000:Nat)∧w.length≤(1000000:Nat))∧bif p_2.2.eraseIdx
  (p_4:Int).toNat==w then (p_1.2.length+[(List.getD book (p_1.1:Int).toNat Cod.noG).1].length)*(16:Nat)≤(140737488355328:Nat)∧((-9223372036854775808:Int)≤(p_1.1:Int)
  + (1:Int)∧(p_1.1:Int)+(1:Int)≤(9223372036854775807:Int))∧∃ (p':Nat×List (List UInt8)),(p'.1≤List.length book∧p'.2.length≤p'.1∧Hea.q0i (Hea.q06 e) e.ws w
  book []=Hea.q0i (Hea.q06 e) e.ws w (List.drop p'.1 book) p'.2)∧List.length book-p'.1<List.length book-p_1.1∧(p_1.1:Int)+(1:Int)=(p'.1:Int)∧p_1.2++[(List.getD
  book (p_1.1:Int).toNat Cod.noG).1]=p'.2 else ((-9223372036854775808:Int)≤(p_4:Int)+(1:Int)∧(p_4:Int)+(1:Int)≤(9223372036854775807:Int))∧∃ (p':Nat),(p' ≤
  p_2.2.length∧∀ (i:Nat),i<p'→(p_2.2.eraseIdx i==w)=false)∧p_2.2.length-p'<p_2.2.length-p_4∧(p_4:Int)+(1:Int)=(p':Int))∧((0:Int)≤(p_4:Int)∧(↑p_4 :
  Int)<(p_2.2.length:Int))∧((p_2.2.eraseIdx (p_4:Int).toNat).length≤(1000000:Nat)∧w.length≤(1000000:Nat))∧bif p_2.2.eraseIdx (p_4:Int).toNat==w then (p_1.2.length +
  [(List.getD book (p_1.1:Int).toNat Cod.noG).1].length)*(16:Nat)≤(140737488355328:Nat)∧((-9223372036854775808:Int)≤(p_1.1:Int)+(1:Int)∧(p_1.1:Int)+(1:Int) ≤
  (9223372036854775807:Int))∧∃ (p':Nat×List (List UInt8)),(p'.1≤List.length book∧p'.2.length≤p'.1∧Hea.q0i (Hea.q06 e) e.ws w book []=Hea.q0i (Hea.q06 e) e.ws w
  (List.drop p'.1 book) p'.2)∧List.length book-p'.1<List.length book-p_1.1∧(p_1.1:Int)+(1:Int)=(p'.1:Int)∧p_1.2++[(List.getD book (p_1.1:Int).toNat Cod.noG).1] =
  p'.2 else ((-9223372036854775808:Int)≤(p_4:Int)+(1:Int)∧(p_4:Int)+(1:Int)≤(9223372036854775807:Int))∧∃ (p':Nat),(p'≤p_2.2.length∧∀ (i:Nat),i<p' →
  (p_2.2.eraseIdx i==w)=false)∧p_2.2.length-p'<p_2.2.length-p_4∧(p_4:Int)+(1:Int)=(p':Int))∧p_2.2.length≤(1000000:Nat)∧((0:Int)≤(p_4:Int)∧(↑p_4 :
  Int)<(p_2.2.length:Int))∧((p_2.2.eraseIdx (p_4:Int).toNat).length≤(1000000:Nat)∧w.length≤(1000000:Nat))∧bif p_2.2.eraseIdx (p_4:Int).toNat==w then (p_1.2.length +
  [(List.getD book (p_1.1:Int).toNat Cod.noG).1].length)*(16:Nat)≤(140737488355328:Nat)∧((-9223372036854775808:Int)≤(p_1.1:Int)+(1:Int)∧(p_1.1:Int)+(1:Int) ≤
  (9223372036854775807:Int))∧∃ (p':Nat×List (List UInt8)),(p'.1≤List.length book∧p'.2.length≤p'.1∧Hea.q0i (Hea.q06 e) e.ws w book []=Hea.q0i (Hea.q06 e) e.ws w
  (List.drop p'.1 book) p'.2)∧List.length book-p'.1<List.length book-p_1.1∧(p_1.1:Int)+(1:Int)=(p'.1:Int)∧p_1.2++[(List.getD book (p_1.1:Int).toNat Cod.noG).1] =
  p'.2 else ((-9223372036854775808:Int)≤(p_4:Int)+(1:Int)∧(p_4:Int)+(1:Int)≤(9223372036854775807:Int))∧∃ (p':Nat),(p'≤p_2.2.length∧∀ (i:Nat),i<p' →
  (p_2.2.eraseIdx i==w)=false)∧p_2.2.length-p'<p_2.2.length-p_4∧(p_4:Int)+(1:Int)=(p':Int) else ((-9223372036854775808:Int)≤(p_3:Int)+(1:Int)∧(↑p_3 :
  Int)+(1:Int)≤(9223372036854775807:Int))∧∃ (p':Nat),(p'≤(3:Nat)∧((1:Nat)≤p'→Hea.q3k (Hea.q06 e) p_2.2 w=false)∧((2:Nat)≤p'→Hea.q3v p_2.2 w=false) ∧
  ((3:Nat)≤p'→Hea.q3u p_2.2 w=false))∧(3:Nat)-p'<(3:Nat)-p_3∧(p_3:Int)+(1:Int)=(p':Int))∧((p_3:Int)=(2:Int)→((-9223372036854775808:Int) ≤
  (p_2.2.length:Int)-(1:Int)∧(p_2.2.length:Int)-(1:Int)≤(9223372036854775807:Int))∧(∃ (p':Nat),(p'≤p_2.2.length-(1:Nat)∧∀ (i:Nat),i<p'→(Hea.q15 p_2.2
  i==w&&p_2.2.getD i [] != p_2.2.getD (i+(1:Nat)) [])=false)∧(0:Int)=(p':Int))∧∀ (p_4:Nat),(p_4≤p_2.2.length-(1:Nat)∧∀ (i:Nat),i<p_4→(Hea.q15 p_2.2 i
  == w&&p_2.2.getD i [] != p_2.2.getD (i+(1:Nat)) [])=false)→bif decide ((p_4:Int)<(p_2.2.length:Int)-(1:Int)) then p_2.2.length≤(1000000:Nat) ∧
  (((-9223372036854775808:Int)≤(p_4:Int)+(1:Int)∧(p_4:Int)+(1:Int)≤(9223372036854775807:Int))∧((0:Int)≤(p_4:Int)+(1:Int)∧(p_4:Int)+(1:Int) <
  (p_2.2.length:Int))∧((0:Int)≤(p_4:Int)∧(p_4:Int)<(p_2.2.length:Int))∧((0:Int)≤(p_4:Int)∧(p_4:Int)<(p_2.2.length:Int))∧((-9223372036854775808:Int)
  ≤ (p_4:Int)+(1:Int)∧(p_4:Int)+(1:Int)≤(9223372036854775807:Int))∧bif (p_4:Int).toNat.beq (p_4:Int).toNat then ((0:Int)≤(p_4:Int)+(1:Int)∧(p_4:Int)
  + (1:Int)<(↑(p_2.2.set (p_4:Int).toNat (p_2.2.getD ((p_4:Int)+(1:Int)).toNat [])).length:Int))∧bif ((p_4:Int)+(1:Int)).toNat.beq ((p_4:Int)+(1:Int)).toNat
  then ∃ (p':Unit),(p_2.2.set (p_4:Int).toNat (p_2.2.getD ((p_4:Int)+(1:Int)).toNat [])).set ((p_4:Int)+(1:Int)).toNat (p_2.2.getD (p_4:Int).toNat [])=Hea.q15 p_2.2
  (p_4:Int).toNat else False else False)∧∀ (p_5:Unit),True→((Hea.q15 p_2.2 (p_4:Int).toNat).length≤(1000000:Nat)∧w.length≤(1000000:Nat))∧bif Hea.q15 p_2.2 (↑p_4 :
  Int).toNat==w then ((0:Int)≤(p_4:Int)∧(p_4:Int)<(p_2.2.length:Int))∧((-9223372036854775808:Int)≤(p_4:Int)+(1:Int)∧(p_4:Int)+(1:Int) ≤
  (9223372036854775807:Int))∧((0:Int)≤(p_4:Int)+(1:Int)∧(p_4:Int)+(1:Int)<(p_2.2.length:Int))∧bif !p_2.2.getD (p_4:Int).toNat []==p_2.2.getD ((p_4:Int) +
  (1:Int)).toNat [] then (p_1.2.length+[(List.getD book (p_1.1:Int).toNat Cod.noG).1].length)*(16:Nat)≤(140737488355328:Nat)∧((-9223372036854775808:Int)≤(p_1.1:Int) +
  (1:Int)∧(p_1.1:Int)+(1:Int)≤(9223372036854775807:Int))∧∃ (p':Nat×List (List UInt8)),(p'.1≤List.length book∧p'.2.length≤p'.1∧Hea.q0i (Hea.q06 e) e.ws w book
  []=Hea.q0i (Hea.q06 e) e.ws w (List.drop p'.1 book) p'.2)∧List.length book-p'.1<List.length book-p_1.1∧(p_1.1:Int)+(1:Int)=(p'.1:Int)∧p_1.2++[(List.getD book
  (p_1.1:Int).toNat Cod.noG).1]=p'.2 else ((-9223372036854775808:Int)≤(p_4:Int)+(1:Int)∧(p_4:Int)+(1:Int)≤(9223372036854775807:Int))∧∃ (p':Nat),(p' ≤
  p_2.2.length-(1:Nat)∧∀ (i:Nat),i<p'→(Hea.q15 p_2.2 i==w&&p_2.2.getD i [] != p_2.2.getD (i+(1:Nat)) [])=false)∧p_2.2.length-(1:Nat)-p'<p_2.2.length-(1 :
  Nat)-p_4∧(p_4:Int)+(1:Int)=(p':Int) else ((-9223372036854775808:Int)≤(p_4:Int)+(1:Int)∧(p_4:Int)+(1:Int)≤(9223372036854775807:Int))∧∃ (p':Nat),
  (p'≤p_2.2.length-(1:Nat)∧∀ (i:Nat),i<p'→(Hea.q15 p_2.2 i==w&&p_2.2.getD i [] != p_2.2.getD (i+(1:Nat)) [])=false)∧p_2.2.length-(1:Nat)-p'<p_2.2.length -
  (1:Nat)-p_4∧(p_4:Int)+(1:Int)=(p':Int) else ((-9223372036854775808:Int)≤(p_3:Int)+(1:Int)∧(p_3:Int)+(1:Int)≤(9223372036854775807:Int))∧∃ (p' :
  Nat),(p'≤(3:Nat)∧((1:Nat)≤p'→Hea.q3k (Hea.q06 e) p_2.2 w=false)∧((2:Nat)≤p'→Hea.q3v p_2.2 w=false)∧((3:Nat)≤p'→Hea.q3u p_2.2 w=false))∧(3:Nat)
  - p'<(3:Nat)-p_3∧(p_3:Int)+(1:Int)=(p':Int)) else ((-9223372036854775808:Int)≤(p_1.1:Int)+(1:Int)∧(p_1.1:Int)+(1:Int)≤(9223372036854775807:Int)) ∧
  ∃ (p':Nat×List (List UInt8)),(p'.1≤List.length book∧p'.2.length≤p'.1∧Hea.q0i (Hea.q06 e) e.ws w book []=Hea.q0i (Hea.q06 e) e.ws w (List.drop p'.1 book) p'.2) ∧
  List.length book-p'.1<List.length book-p_1.1∧(p_1.1:Int)+(1:Int)=(p'.1:Int)∧p_1.2=p'.2 else bif (p_1.2.length:Int)==(0:Int) then ([],false,(10:Int))=R
  else bif (p_1.2.length:Int)==(1:Int) then ((0:Int)≤(0:Int)∧(0:Int)<(p_1.2.length:Int))∧(p_1.2.getD 0 [],true,(0:Int))=R else ([],false,(8:Int))=R:=by
 subst hm;refine ⟨⟨(0,[]),⟨Nat.zero_le _,Nat.le_refl _,rfl⟩,rfl,rfl⟩,?_⟩;rintro ⟨i,doors⟩ ⟨hi,hd,hf⟩;have hi:i≤book.length:=hi;have hd:doors.length≤i:=hd;have hf:Hea.q0i (Hea.q06 e) e.ws w book []=Hea.q0i (Hea.q06 e) e.ws w (book.drop i) doors:=hf;have hti:((i:Int).toNat)=i:=rfl;dsimp only;simp only [hti];refine bifP (λhb=>?_) λhb=>?_
 ·have hlt:i<book.length:=by have:=of_decide_eq_true hb;omega
  have hmem:=Snd.q1d book Cod.noG i hlt;have hdrop:book.drop i=book.getD i Cod.noG::book.drop (i+1):=by
   rw [List.drop_eq_getElem_cons hlt,List.getD_eq_getElem?_getD,List.getElem?_eq_getElem hlt];rfl
  generalize book.getD i Cod.noG=g at hmem hdrop ⊢;obtain ⟨hok,hgc⟩:=Hea.q4p hp hmem;obtain ⟨hv,hlen,hin⟩:=Cod.q6a hgc;have hnext:∀ ds:List (List UInt8),ds.length≤i+1→Hea.q0i (Hea.q06 e) e.ws w (book.drop i) doors=Hea.q0i (Hea.q06 e) e.ws w (book.drop (i+1)) ds →
    ((-9223372036854775808:Int)≤(i:Int)+(1:Int)∧(i:Int)+(1:Int)≤(9223372036854775807:Int))∧∃ (p':Nat×List (List UInt8)),(p'.1≤List.length book∧p'.2.length≤p'.1∧Hea.q0i (Hea.q06 e) e.ws w book []=Hea.q0i (Hea.q06 e) e.ws w (List.drop p'.1 book) p'.2)∧List.length book-p'.1<List.length book-i∧(i:Int)+(1:Int)=(p'.1:Int)∧ds=p'.2:=λds h1 h2 =>
   ⟨⟨by omega,by omega⟩,(i+1,ds),⟨hlt,h1,hf.trans h2⟩,by show book.length-(i+1)<book.length-i;omega,by push_cast;rfl,rfl⟩
  refine ⟨⟨by omega,by omega⟩,⟨(0,[]),⟨Nat.zero_le _,rfl⟩,rfl,rfl⟩,?_⟩
  rintro ⟨k,own⟩ ⟨hk,ho⟩;have hk:k≤g.2.1.length:=hk;obtain rfl:own=Hea.ownW e.ws (g.2.1.take k):=ho;have htk:((k:Int).toNat)=k:=rfl;dsimp only;simp only [htk];refine bifP (λhb=>?_) λhb=>?_
  ·have hkl:k<g.2.1.length:=by have:=of_decide_eq_true hb;omega
   obtain ⟨q0,q1⟩:=Cod.q99 hin hkl;have hol:(Hea.ownW e.ws (g.2.1.take k)).length≤5:=by rw [Hea.qbd,List.length_take];omega
   refine ⟨⟨by omega,by omega⟩,⟨q0,q1⟩,by rw [List.length_singleton];omega,⟨by omega,by omega⟩,(k+1,_),⟨hkl,rfl⟩,by show g.2.1.length-(k+1)<g.2.1.length-k;omega,by push_cast;rfl,ownH_snoc _ _ _ hkl⟩
  ·have hkl:g.2.1.length≤k:=by have:=of_decide_eq_false hb;omega
   rw [List.take_of_length_le hkl];have hol:(Hea.ownW e.ws g.2.1).length≤5:=by rw [Hea.qbd];omega
   have hos:=ownH_long e.ws hW g.2.1;generalize hown:Hea.ownW e.ws g.2.1=own at hol hos ⊢;refine ⟨⟨by omega,by omega⟩,bifP (λhb=>?_) λhne=>?_⟩
   ·rw [hR,hf,hdrop,Hea.q0i,hown,if_pos hb]
   have hyes:Hea.q78 (Hea.q06 e) own w=true→(doors.length+[g.1].length)*(16:Nat)≤(140737488355328:Nat)∧((-9223372036854775808:Int)≤(i:Int)+(1:Int)∧(i:Int)+(1:Int)≤(9223372036854775807:Int))∧∃ (p':Nat×List (List UInt8)),(p'.1≤List.length book∧p'.2.length≤p'.1∧Hea.q0i (Hea.q06 e) e.ws w book []=Hea.q0i (Hea.q06 e) e.ws w (List.drop p'.1 book) p'.2)∧List.length book-p'.1<List.length book-i∧(i:Int)+(1:Int)=(p'.1:Int)∧doors++[g.1]=p'.2:=λh=>by
    refine ⟨by rw [List.length_singleton];omega,hnext (doors++[g.1]) (by rw [List.length_append,List.length_singleton];omega) ?_⟩
    rw [hdrop,Hea.q0i,hown,if_neg (by rw [hne];decide),h,if_pos rfl]
   refine ⟨⟨0,⟨Nat.zero_le _,λh=>absurd h (by omega),λh=>absurd h (by omega),λh=>absurd h (by omega)⟩,rfl⟩,?_⟩
   rintro j ⟨hj,h1,h2,h3⟩;refine bifP (λhb=>?_) λhb=>?_
   ·have hj3:j<3:=by have:=of_decide_eq_true hb;omega
    refine ⟨⟨by omega,by omega⟩,λhj0=>?_,λhj0=>?_,λhj0=>?_⟩
    ·obtain rfl:j=0:=by omega
     refine Hea.repl_part e own w hC hos hwl (by omega) (λh=>hyes (by unfold Hea.q78;rw [h];rfl)) λh=>⟨⟨by omega,by omega⟩,1,⟨by omega,λ_=>h,λh'=>absurd h' (by omega),λh'=>absurd h' (by omega)⟩,by omega,rfl⟩
    ·obtain rfl:j=1:=by omega
     refine Hea.miss_part own w (by omega) (by omega) (λh=>hyes (by unfold Hea.q78;rw [h,Bool.true_or,Bool.or_true])) λh=>⟨⟨by omega,by omega⟩,2,⟨by omega,λ_=>h1 (by omega),λ_=>h,λh'=>absurd h' (by omega)⟩,by omega,rfl⟩
    ·obtain rfl:j=2:=by omega
     refine Hea.exch_part own w (by omega) (by omega) (λh=>hyes (by unfold Hea.q78;rw [h,Bool.or_true,Bool.or_true])) λh=>⟨⟨by omega,by omega⟩,3,⟨by omega,λ_=>h1 (by omega),λ_=>h2 (by omega),λ_=>h⟩,by omega,rfl⟩
   ·have hj3:3≤j:=by have:=of_decide_eq_false hb;omega
    refine hnext doors (by omega) ?_
    have hno:Hea.q78 (Hea.q06 e) own w=false:=by
     unfold Hea.q78;rw [h1 (by omega),h2 (by omega),h3 (by omega)];rfl
    rw [hdrop,Hea.q0i,hown,if_neg (by rw [hne];decide),hno,if_neg (by decide)]
 ·have hle:book.length≤i:=by have:=of_decide_eq_false hb;omega
  rw [List.drop_eq_nil_of_le hle] at hf;rw [hR,hf];refine bifP (λhb=>?_) λh0=>bifP (λhb=>?_) λh1=>?_
  ·have:=eq_of_beq hb
   obtain rfl:doors=[]:=List.eq_nil_of_length_eq_zero (by omega)
   rfl
  ·have:=eq_of_beq hb
   obtain ⟨d,rfl⟩:=List.length_eq_one_iff.1 (show doors.length=1 by omega)
   exact ⟨⟨by omega,by rw [List.length_singleton];omega⟩,rfl⟩
  ·match doors with
   | []=>exact absurd rfl (beq_eq_false_iff_ne.1 h0)
   | [d]=>exact absurd rfl (beq_eq_false_iff_ne.1 h1)
   | _::_::_=>rfl
abbrev q2h (book:q0d) (e:Cod.Ear) (p_1:Nat×List (List UInt8)):Prop :=
 ((True∧True∧True)∧(e.c=e.c∧True)∧(e.lang=e.lang∧e.ws=e.ws∧True)∧((List.getD book (p_1.1:Int).toNat Cod.noG).1=(List.getD book (p_1.1:Int).toNat Cod.noG).1∧(List.getD book (p_1.1:Int).toNat Cod.noG).2.1=(List.getD book (p_1.1:Int).toNat Cod.noG).2.1∧(List.getD book (p_1.1:Int).toNat Cod.noG).2.2.1=(List.getD book (p_1.1:Int).toNat Cod.noG).2.2.1∧(List.getD book (p_1.1:Int).toNat Cod.noG).2.2.2.1=(List.getD book (p_1.1:Int).toNat Cod.noG).2.2.2.1∧(List.getD book (p_1.1:Int).toNat Cod.noG).2.2.2.2=(List.getD book (p_1.1:Int).toNat Cod.noG).2.2.2.2∧True)∧(True∧True)∧True)
abbrev q4b (book:q0d) (p_1:Nat×List (List UInt8)) (p_3:Nat):Prop :=
 (True∧True∧(p_3:Int)=(p_3:Int)∧(↑[((102:Nat),[(nat_lit 22011,nat_lit 0)].length,[(nat_lit 22011,nat_lit 0)]++[]),((103:Nat),[(nat_lit 22011,nat_lit 0)].length,[(nat_lit 22011,nat_lit 0)]++[]),((104:Nat),[(nat_lit 22011,nat_lit 0)].length,[(nat_lit 22011,nat_lit 0)]++[])].length:Int)=(↑[((102:Nat),[(nat_lit 22011,nat_lit 0)].length,[(nat_lit 22011,nat_lit 0)]++[]),((103:Nat),[(nat_lit 22011,nat_lit 0)].length,[(nat_lit 22011,nat_lit 0)]++[]),((104:Nat),[(nat_lit 22011,nat_lit 0)].length,[(nat_lit 22011,nat_lit 0)]++[])].length:Int)∧(p_3:Int)=(p_3:Int)∧True∧True∧True∧True∧True∧book=book∧(↑(List.length book):Int)=(↑(List.length book):Int)∧(p_1.1:Int)=(p_1.1:Int)∧True)
abbrev qbb (p':Nat) (p_3:Nat):Prop :=
 ((p_3:Int)+1=(p':Int)∧True∧True∧(↑[((102:Nat),[(nat_lit 22011,nat_lit 0)].length,[(nat_lit 22011,nat_lit 0)]++[]),((103:Nat),[(nat_lit 22011,nat_lit 0)].length,[(nat_lit 22011,nat_lit 0)]++[]),((104:Nat),[(nat_lit 22011,nat_lit 0)].length,[(nat_lit 22011,nat_lit 0)]++[])].length:Int)=(↑[((102:Nat),[(nat_lit 22011,nat_lit 0)].length,[(nat_lit 22011,nat_lit 0)]++[]),((103:Nat),[(nat_lit 22011,nat_lit 0)].length,[(nat_lit 22011,nat_lit 0)]++[]),((104:Nat),[(nat_lit 22011,nat_lit 0)].length,[(nat_lit 22011,nat_lit 0)]++[])].length:Int)∧True)
abbrev q9h (e:Cod.Ear) (p:Bool×List UInt8×List (List UInt8)) (p':Nat) (p_2:Nat×List (List UInt8)):Prop :=
 (p'≤(3:Nat)∧((1:Nat)≤p'→Hea.q3k (Hea.q06 e) p_2.2 p.2.2=false)∧((2:Nat)≤p'→Hea.q3v p_2.2 p.2.2=false)∧((3:Nat)≤p'→Hea.q3u p_2.2 p.2.2=false))
abbrev q7t (book:q0d) (e:Cod.Ear) (p:Bool×List UInt8×List (List UInt8)) (p':Nat×List (List UInt8)):Prop :=
 (p'.1≤List.length book∧p'.2.length≤p'.1∧Hea.q0i (Hea.q06 e) e.ws p.2.2 book []=Hea.q0i (Hea.q06 e) e.ws p.2.2 (List.drop p'.1 book) p'.2)
abbrev zHeJ0_5 (book:q0d) (e:Cod.Ear) (p:Bool×List UInt8×List (List UInt8)) (text:List UInt8):Prop :=
 ((p.2.2.length+[(cutF p.2.1).1].length)*(16:Nat)≤(140737488355328:Nat)∧∃ (p':Bool×List UInt8×List (List UInt8)),q48 text p'.1 p'.2.1 p'.2.2∧((if p'.1=true then p'.2.1.length+(1:Nat) else (0:Nat))<if p.1=true then p.2.1.length+(1:Nat) else (0:Nat))∧((cutF p.2.1).2.2=p'.1∧True∧True∧True)∧(((cutF p.2.1).2.1=p'.2.1∧True)∧(True∧True∧True)∧(e.c=e.c∧True)∧(True∧True)∧(false=false∧True)∧(True∧True)∧(e.lang=e.lang∧e.ws=e.ws∧True)∧True)∧(p.2.2++[(cutF p.2.1).1]=p'.2.2∧True)∧True∧True∧(True∧True∧True∧book=book∧True∧True)∧True∧True∧True∧True∧(True∧True∧True∧True)∧True)
abbrev q9k (book:q0d) (p_1:Nat×List (List UInt8)):Prop :=
 (True∧True∧True∧True∧True∧book=book∧(↑(List.length book):Int)=(↑(List.length book):Int)∧(p_1.1:Int)=(p_1.1:Int)∧True)
abbrev q98 (book:q0d) (p':Nat×List (List UInt8)) (p_1:Nat×List (List UInt8)):Prop :=
 ((p_1.1:Int)+1=(p'.1:Int)∧True∧(↑(List.length book):Int)=(↑(List.length book):Int)∧True∧True∧True∧book=book∧True)
abbrev zHeJ0_8 (book:q0d) (e:Cod.Ear) (p_1:Nat×List (List UInt8)):Prop :=
 ((True∧True)∧(True∧True∧True)∧(e.c=e.c∧True)∧(e.lang=e.lang∧e.ws=e.ws∧True)∧((List.getD book (p_1.1:Int).toNat Cod.noG).1=(List.getD book (p_1.1:Int).toNat Cod.noG).1∧(List.getD book (p_1.1:Int).toNat Cod.noG).2.1=(List.getD book (p_1.1:Int).toNat Cod.noG).2.1∧(List.getD book (p_1.1:Int).toNat Cod.noG).2.2.1=(List.getD book (p_1.1:Int).toNat Cod.noG).2.2.1∧(List.getD book (p_1.1:Int).toNat Cod.noG).2.2.2.1=(List.getD book (p_1.1:Int).toNat Cod.noG).2.2.2.1∧(List.getD book (p_1.1:Int).toNat Cod.noG).2.2.2.2=(List.getD book (p_1.1:Int).toNat Cod.noG).2.2.2.2∧True)∧True)
abbrev q7s (e:Cod.Ear):Prop :=
 ((True∧True∧True)∧(e.c=e.c∧True)∧(e.lang=e.lang∧e.ws=e.ws∧True)∧True)
abbrev q26 (p:Bool×List UInt8×List (List UInt8)) (p_1:Nat×List (List UInt8)) (p_2:Nat×List (List UInt8)):Prop :=
 (p.2.2=p.2.2∧p_1.2=p_1.2∧p_2.2=p_2.2∧True)
abbrev qdy (e:Cod.Ear) (p:Bool×List UInt8×List (List UInt8)) (p':Nat×Nat) (p_2:Nat×List (List UInt8)):Prop :=
 (p'.1≤p.2.2.length∧p'.2=(Hea.diff (List.take p'.1 p_2.2) (List.take p'.1 p.2.2)).length∧((Hea.diff (List.take p'.1 p_2.2) (List.take p'.1 p.2.2)).all λ(q:Hea.Str×Hea.Str)=>Hea.q06 e q.1 q.2)=true)
abbrev qf2 (p_2:Nat×List (List UInt8)) (p_4:Nat):Prop :=
 ((p_4:Int)+1=(p_4:Int)+1∧0≤(p_4:Int)∧(p_4:Int)<(p_2.2.length:Int))
set_option maxRecDepth 100000 in
theorem hear_vc (e:Cod.Ear) (book:q0d) (text:List UInt8) (h:cHear.pre ((e.lang,e.ws),e.c,book,text)) :
  (q0y (e.lang,e.ws)∧q0o e.c∧q5k book)∧bif !e.proper book then ([],false,(1:Int))=Hea.q0w e book text else (∃ (p':Bool×List UInt8×List (List UInt8)),q48 text p'.1 p'.2.1 p'.2.2∧(true=p'.1∧True∧True∧True)∧((text=p'.2.1∧True)∧(True∧True∧True)∧(e.c=e.c∧True)∧(True∧True)∧(false=false∧True)∧(True∧True)∧(e.lang=e.lang∧e.ws=e.ws∧True)∧True)∧(p'.2.2=[]∧True)∧True∧True∧(True∧True∧True∧book=book∧True∧True)∧True∧True∧True∧True∧(True∧True∧True∧True)∧True)∧∀ (p:Bool×List UInt8×List (List UInt8)),q48 text p.1 p.2.1 p.2.2→bif p.1 then (p.2.1.length≤(1000000:Nat)∧[(32:UInt8)]=[(32:UInt8)])∧(cutF p.2.1).1.length≤(1000000:Nat)∧bif (cutF p.2.1).1.any λ(c:UInt8)=>!Snd.letB c then ([],false,(5:Int))=Hea.q0w e book text else bif (cutF p.2.1).1==[] then ([],false,(5:Int))=Hea.q0w e book text else bif decide ((12:Int)<(↑(cutF p.2.1).1.length:Int)) then ([],false,(5:Int))=Hea.q0w e book text else bif (p.2.2.length:Int)==(5:Int) then ([],false,(5:Int))=Hea.q0w e book text else (zHeJ0_5 book e p text)∧(zHeJ0_5 book e p text)∧(p.2.2.length+[(cutF p.2.1).1].length)*(16:Nat)≤(140737488355328:Nat)∧∃ (p':Bool×List UInt8×List (List UInt8)),q48 text p'.1 p'.2.1 p'.2.2∧((if p'.1=true then p'.2.1.length+(1:Nat) else (0:Nat))<if p.1=true then p.2.1.length+(1:Nat) else (0:Nat))∧((cutF p.2.1).2.2=p'.1∧True∧True∧True)∧(((cutF p.2.1).2.1=p'.2.1∧True)∧(True∧True∧True)∧(e.c=e.c∧True)∧(True∧True)∧(false=false∧True)∧(True∧True)∧(e.lang=e.lang∧e.ws=e.ws∧True)∧True)∧(p.2.2++[(cutF p.2.1).1]=p'.2.2∧True)∧True∧True∧(True∧True∧True∧book=book∧True∧True)∧True∧True∧True∧True∧(True∧True∧True∧True)∧True else (∃ (p':Nat×List (List UInt8)),(q7t book e p p')∧((0:Int)=(p'.1:Int)∧True∧(↑(List.length book):Int)=(↑(List.length book):Int)∧True∧True∧True∧book=book∧True)∧(q7s e)∧(p.2.2=p.2.2∧p'.2=[]∧True)∧True∧True∧True∧True∧True∧True∧True)∧∀ (p_1:Nat×List (List UInt8)),p_1.1≤List.length book∧p_1.2.length≤p_1.1∧Hea.q0i (Hea.q06 e) e.ws p.2.2 book []=Hea.q0i (Hea.q06 e) e.ws p.2.2 (List.drop p_1.1 book) p_1.2→bif decide ((p_1.1:Int)<(↑(List.length book):Int)) then (0≤(p_1.1:Int)∧(p_1.1:Int)<(↑(List.length book):Int))∧(∃ (p':Nat×List (List UInt8)),(p'.1≤(List.getD book (p_1.1:Int).toNat Cod.noG).2.1.length∧p'.2=Hea.ownW e.ws (List.take p'.1 (List.getD book (p_1.1:Int).toNat Cod.noG).2.1))∧((0:Int)=(p'.1:Int)∧True∧True∧True∧True∧True∧True∧book=book∧(↑(List.length book):Int)=(↑(List.length book):Int)∧(p_1.1:Int)=(p_1.1:Int)∧(List.getD book (p_1.1:Int).toNat Cod.noG).2.1=(List.getD book (p_1.1:Int).toNat Cod.noG).2.1∧(↑(List.getD book (p_1.1:Int).toNat Cod.noG).2.1.length:Int)=(↑(List.getD book (p_1.1:Int).toNat Cod.noG).2.1.length:Int)∧True)∧(zHeJ0_8 book e p_1)∧(p'.2=[]∧p.2.2=p.2.2∧p_1.2=p_1.2∧True)∧True∧True∧True∧True∧True∧True∧True)∧∀ (p_2:Nat×List (List UInt8)),p_2.1≤(List.getD book (p_1.1:Int).toNat Cod.noG).2.1.length∧p_2.2=Hea.ownW e.ws (List.take p_2.1 (List.getD book (p_1.1:Int).toNat Cod.noG).2.1)→bif decide ((p_2.1:Int)<(↑(List.getD book (p_1.1:Int).toNat Cod.noG).2.1.length:Int)) then (0≤(p_2.1:Int)∧(p_2.1:Int)<(↑(List.getD book (p_1.1:Int).toNat Cod.noG).2.1.length:Int))∧((0:Int)≤(List.getD book (p_1.1:Int).toNat Cod.noG).2.1.getD (p_2.1:Int).toNat (0:Int)∧(List.getD book (p_1.1:Int).toNat Cod.noG).2.1.getD (p_2.1:Int).toNat 0<(e.ws.length:Int))∧(p_2.2.length+[e.ws.getD ((List.getD book (p_1.1:Int).toNat Cod.noG).2.1.getD (p_2.1:Int).toNat (0:Int)).toNat []].length)*(16:Nat)≤(140737488355328:Nat)∧(zFit ((p_2.1:Int)+1))∧∃ (p':Nat×List (List UInt8)),(p'.1≤(List.getD book (p_1.1:Int).toNat Cod.noG).2.1.length∧p'.2=Hea.ownW e.ws (List.take p'.1 (List.getD book (p_1.1:Int).toNat Cod.noG).2.1))∧(List.getD book (p_1.1:Int).toNat Cod.noG).2.1.length-p'.1<(List.getD book (p_1.1:Int).toNat Cod.noG).2.1.length-p_2.1∧((p_2.1:Int)+1=(p'.1:Int)∧True∧True∧True∧True∧True∧True∧book=book∧(↑(List.length book):Int)=(↑(List.length book):Int)∧(p_1.1:Int)=(p_1.1:Int)∧(List.getD book (p_1.1:Int).toNat Cod.noG).2.1=(List.getD book (p_1.1:Int).toNat Cod.noG).2.1∧(↑(List.getD book (p_1.1:Int).toNat Cod.noG).2.1.length:Int)=(↑(List.getD book (p_1.1:Int).toNat Cod.noG).2.1.length:Int)∧True)∧(zHeJ0_8 book e p_1)∧(p_2.2++[e.ws.getD ((List.getD book (p_1.1:Int).toNat Cod.noG).2.1.getD (p_2.1:Int).toNat (0:Int)).toNat []]=p'.2∧p.2.2=p.2.2∧p_1.2=p_1.2∧True)∧True∧True∧True∧True∧True∧True∧True else (p_2.2.length≤(1000000:Nat)∧p.2.2.length≤(1000000:Nat))∧bif p_2.2==p.2.2 then ((List.getD book (p_1.1:Int).toNat Cod.noG).1,false,(0:Int))=Hea.q0w e book text else (∃ (p':Nat),(q9h e p p' p_2)∧((0:Int)=(p':Int)∧True∧True∧(↑[((102:Nat),[(nat_lit 22011,nat_lit 0)].length,[(nat_lit 22011,nat_lit 0)]++[]),((103:Nat),[(nat_lit 22011,nat_lit 0)].length,[(nat_lit 22011,nat_lit 0)]++[]),((104:Nat),[(nat_lit 22011,nat_lit 0)].length,[(nat_lit 22011,nat_lit 0)]++[])].length:Int)=(↑[((102:Nat),[(nat_lit 22011,nat_lit 0)].length,[(nat_lit 22011,nat_lit 0)]++[]),((103:Nat),[(nat_lit 22011,nat_lit 0)].length,[(nat_lit 22011,nat_lit 0)]++[]),((104:Nat),[(nat_lit 22011,nat_lit 0)].length,[(nat_lit 22011,nat_lit 0)]++[])].length:Int)∧True)∧(q2h book e p_1)∧(q26 p p_1 p_2)∧True∧True∧(q9k book p_1)∧True∧True∧True∧True)∧∀ (p_3:Nat),p_3≤(3:Nat)∧((1:Nat)≤p_3→Hea.q3k (Hea.q06 e) p_2.2 p.2.2=false)∧((2:Nat)≤p_3→Hea.q3v p_2.2 p.2.2=false)∧((3:Nat)≤p_3→Hea.q3u p_2.2 p.2.2=false)→bif decide ((p_3:Int)<(↑[((102:Nat),[(nat_lit 22011,nat_lit 0)].length,[(nat_lit 22011,nat_lit 0)]++[]),((103:Nat),[(nat_lit 22011,nat_lit 0)].length,[(nat_lit 22011,nat_lit 0)]++[]),((104:Nat),[(nat_lit 22011,nat_lit 0)].length,[(nat_lit 22011,nat_lit 0)]++[])].length:Int)) then (0≤(p_3:Int)∧(p_3:Int)<(↑[((102:Nat),[(nat_lit 22011,nat_lit 0)].length,[(nat_lit 22011,nat_lit 0)]++[]),((103:Nat),[(nat_lit 22011,nat_lit 0)].length,[(nat_lit 22011,nat_lit 0)]++[]),((104:Nat),[(nat_lit 22011,nat_lit 0)].length,[(nat_lit 22011,nat_lit 0)]++[])].length:Int))∧((p_3:Int)=(↑(nat_lit 0):Int)→bif (p_2.2.length:Int) != (p.2.2.length:Int) then (zFit ((p_3:Int)+1))∧∃ (p':Nat),(q9h e p p' p_2)∧(3:Nat)-p'<(3:Nat)-p_3∧(qbb p' p_3)∧(q2h book e p_1)∧(q26 p p_1 p_2)∧True∧True∧(q9k book p_1)∧True∧True∧True∧True else (∃ (p':Nat×Nat),(qdy e p p' p_2)∧((0:Int)=(p'.1:Int)∧(0:Int)=(p'.2:Int)∧True∧True∧True∧(p.2.2.length:Int)=(p.2.2.length:Int)∧True)∧(q2h book e p_1)∧(q26 p p_1 p_2)∧True∧True∧(q4b book p_1 p_3)∧True∧True∧True∧True)∧∀ (p_4:Nat×Nat),p_4.1≤p.2.2.length∧p_4.2=(Hea.diff (List.take p_4.1 p_2.2) (List.take p_4.1 p.2.2)).length∧((Hea.diff (List.take p_4.1 p_2.2) (List.take p_4.1 p.2.2)).all λ(q:Hea.Str×Hea.Str)=>Hea.q06 e q.1 q.2)=true→bif decide ((p_4.1:Int)<(p.2.2.length:Int)) then (0≤(p_4.1:Int)∧(p_4.1:Int)<(p.2.2.length:Int))∧(0≤(p_4.1:Int)∧(p_4.1:Int)<(p_2.2.length:Int))∧bif !p.2.2.getD (p_4.1:Int).toNat []==p_2.2.getD (p_4.1:Int).toNat [] then (zFit ((p_4.2:Int)+1))∧(0≤(p_4.1:Int)∧(p_4.1:Int)<(p_2.2.length:Int))∧(q0o e.c∧(p_2.2.getD (p_4.1:Int).toNat []).length≤(1000000:Nat)∧(p.2.2.getD (p_4.1:Int).toNat []).length≤(1000000:Nat))∧bif !Snd.q2a e.c (p_2.2.getD (p_4.1:Int).toNat []) (p.2.2.getD (p_4.1:Int).toNat []) then (zFit ((p_3:Int)+1))∧∃ (p':Nat),(q9h e p p' p_2)∧(3:Nat)-p'<(3:Nat)-p_3∧(qbb p' p_3)∧(q2h book e p_1)∧(q26 p p_1 p_2)∧True∧True∧(q9k book p_1)∧True∧True∧True∧True else (zFit ((p_4.1:Int)+1))∧∃ (p':Nat×Nat),(qdy e p p' p_2)∧p.2.2.length-p'.1<p.2.2.length-p_4.1∧((p_4.1:Int)+1=(p'.1:Int)∧(p_4.2:Int)+1=(p'.2:Int)∧True∧True∧True∧(p.2.2.length:Int)=(p.2.2.length:Int)∧True)∧(q2h book e p_1)∧(q26 p p_1 p_2)∧True∧True∧(q4b book p_1 p_3)∧True∧True∧True∧True else (zFit ((p_4.1:Int)+1))∧∃ (p':Nat×Nat),(qdy e p p' p_2)∧p.2.2.length-p'.1<p.2.2.length-p_4.1∧((p_4.1:Int)+1=(p'.1:Int)∧(p_4.2:Int)=(p'.2:Int)∧True∧True∧True∧(p.2.2.length:Int)=(p.2.2.length:Int)∧True)∧(q2h book e p_1)∧(q26 p p_1 p_2)∧True∧True∧(q4b book p_1 p_3)∧True∧True∧True∧True else bif (p_4.2:Int)==(1:Int) then (p_1.2.length+[(List.getD book (p_1.1:Int).toNat Cod.noG).1].length)*(16:Nat)≤(140737488355328:Nat)∧(zFit ((p_1.1:Int)+1))∧∃ (p':Nat×List (List UInt8)),(q7t book e p p')∧List.length book-p'.1<List.length book-p_1.1∧(q98 book p' p_1)∧(q7s e)∧(p.2.2=p.2.2∧p_1.2++[(List.getD book (p_1.1:Int).toNat Cod.noG).1]=p'.2∧True)∧True∧True∧True∧True∧True∧True∧True else (zFit ((p_3:Int)+1))∧∃ (p':Nat),(q9h e p p' p_2)∧(3:Nat)-p'<(3:Nat)-p_3∧(qbb p' p_3)∧(q2h book e p_1)∧(q26 p p_1 p_2)∧True∧True∧(q9k book p_1)∧True∧True∧True∧True)∧((p_3:Int)=(↑(nat_lit 1):Int)→(∃ (p':Nat),(p'≤p_2.2.length∧∀ (i:Nat),i<p'→(p_2.2.eraseIdx i==p.2.2)=false)∧((0:Int)=(p':Int)∧True∧True∧(p_2.2.length:Int)=(p_2.2.length:Int)∧True)∧(q2h book e p_1)∧(q26 p p_1 p_2)∧True∧True∧(q4b book p_1 p_3)∧True∧True∧True∧True)∧∀ (p_4:Nat),(p_4≤p_2.2.length∧∀ (i:Nat),i<p_4→(p_2.2.eraseIdx i==p.2.2)=false)→bif decide ((p_4:Int)<(p_2.2.length:Int)) then (zFit ((p_4:Int)+1))∧(p_2.2.length≤(1000000:Nat)∧((qf2 p_2 p_4)∧((p_2.2.eraseIdx (p_4:Int).toNat).length≤(1000000:Nat)∧p.2.2.length≤(1000000:Nat))∧bif p_2.2.eraseIdx (p_4:Int).toNat==p.2.2 then (p_1.2.length+[(List.getD book (p_1.1:Int).toNat Cod.noG).1].length)*(16:Nat)≤(140737488355328:Nat)∧(zFit ((p_1.1:Int)+1))∧∃ (p':Nat×List (List UInt8)),(q7t book e p p')∧List.length book-p'.1<List.length book-p_1.1∧(q98 book p' p_1)∧(q7s e)∧(p.2.2=p.2.2∧p_1.2++[(List.getD book (p_1.1:Int).toNat Cod.noG).1]=p'.2∧True)∧True∧True∧True∧True∧True∧True∧True else (zFit ((p_4:Int)+1))∧∃ (p':Nat),(p'≤p_2.2.length∧∀ (i:Nat),i<p'→(p_2.2.eraseIdx i==p.2.2)=false)∧p_2.2.length-p'<p_2.2.length-p_4∧((p_4:Int)+1=(p':Int)∧True∧True∧(p_2.2.length:Int)=(p_2.2.length:Int)∧True)∧(q2h book e p_1)∧(q26 p p_1 p_2)∧True∧True∧(q4b book p_1 p_3)∧True∧True∧True∧True)∧(qf2 p_2 p_4)∧((p_2.2.eraseIdx (p_4:Int).toNat).length≤(1000000:Nat)∧p.2.2.length≤(1000000:Nat))∧bif p_2.2.eraseIdx (p_4:Int).toNat==p.2.2 then (p_1.2.length+[(List.getD book (p_1.1:Int).toNat Cod.noG).1].length)*(16:Nat)≤(140737488355328:Nat)∧(zFit ((p_1.1:Int)+1))∧∃ (p':Nat×List (List UInt8)),(q7t book e p p')∧List.length book-p'.1<List.length book-p_1.1∧(q98 book p' p_1)∧(q7s e)∧(p.2.2=p.2.2∧p_1.2++[(List.getD book (p_1.1:Int).toNat Cod.noG).1]=p'.2∧True)∧True∧True∧True∧True∧True∧True∧True else (zFit ((p_4:Int)+1))∧∃ (p':Nat),(p'≤p_2.2.length∧∀ (i:Nat),i<p'→(p_2.2.eraseIdx i==p.2.2)=false)∧p_2.2.length-p'<p_2.2.length-p_4∧((p_4:Int)+1=(p':Int)∧True∧True∧(p_2.2.length:Int)=(p_2.2.length:Int)∧True)∧(q2h book e p_1)∧(q26 p p_1 p_2)∧True∧True∧(q4b book p_1 p_3)∧True∧True∧True∧True)∧p_2.2.length≤(1000000:Nat)∧(qf2 p_2 p_4)∧((p_2.2.eraseIdx (p_4:Int).toNat).length≤(1000000:Nat)∧p.2.2.length≤(1000000:Nat))∧bif p_2.2.eraseIdx (p_4:Int).toNat==p.2.2 then (p_1.2.length+[(List.getD book (p_1.1:Int).toNat Cod.noG).1].length)*(16:Nat)≤(140737488355328:Nat)∧(zFit ((p_1.1:Int)+1))∧∃ (p':Nat×List (List UInt8)),(q7t book e p p')∧List.length book-p'.1<List.length book-p_1.1∧(q98 book p' p_1)∧(q7s e)∧(p.2.2=p.2.2∧p_1.2++[(List.getD book (p_1.1:Int).toNat Cod.noG).1]=p'.2∧True)∧True∧True∧True∧True∧True∧True∧True else (zFit ((p_4:Int)+1))∧∃ (p':Nat),(p'≤p_2.2.length∧∀ (i:Nat),i<p'→(p_2.2.eraseIdx i==p.2.2)=false)∧p_2.2.length-p'<p_2.2.length-p_4∧((p_4:Int)+1=(p':Int)∧True∧True∧(p_2.2.length:Int)=(p_2.2.length:Int)∧True)∧(q2h book e p_1)∧(q26 p p_1 p_2)∧True∧True∧(q4b book p_1 p_3)∧True∧True∧True∧True else (zFit ((p_3:Int)+1))∧∃ (p':Nat),(q9h e p p' p_2)∧(3:Nat)-p'<(3:Nat)-p_3∧(qbb p' p_3)∧(q2h book e p_1)∧(q26 p p_1 p_2)∧True∧True∧(q9k book p_1)∧True∧True∧True∧True)∧((p_3:Int)=(↑(nat_lit 2):Int)→(zFit ((p_2.2.length:Int)-1))∧(∃ (p':Nat),(p'≤p_2.2.length-(1:Nat)∧∀ (i:Nat),i<p'→(Hea.q15 p_2.2 i==p.2.2&&p_2.2.getD i [] != p_2.2.getD (i+(1:Nat)) [])=false)∧((0:Int)=(p':Int)∧True∧True∧(p_2.2.length:Int)-1=(p_2.2.length:Int)-1∧True)∧(q2h book e p_1)∧(q26 p p_1 p_2)∧True∧True∧(q4b book p_1 p_3)∧True∧True∧True∧True)∧∀ (p_4:Nat),(p_4≤p_2.2.length-(1:Nat)∧∀ (i:Nat),i<p_4→(Hea.q15 p_2.2 i==p.2.2&&p_2.2.getD i [] != p_2.2.getD (i+(1:Nat)) [])=false)→bif decide ((p_4:Int)<(p_2.2.length:Int)-1) then p_2.2.length≤(1000000:Nat)∧((zFit ((p_4:Int)+1))∧(0≤(p_4:Int)+1∧(p_4:Int)+1<(p_2.2.length:Int))∧(0≤(p_4:Int)∧(p_4:Int)<(p_2.2.length:Int))∧(0≤(p_4:Int)∧(p_4:Int)<(p_2.2.length:Int))∧(zFit ((p_4:Int)+1))∧bif (p_4:Int).toNat.beq (p_4:Int).toNat then (0≤(p_4:Int)+1∧(p_4:Int)+1<(↑(p_2.2.set (p_4:Int).toNat (p_2.2.getD ((p_4:Int)+1).toNat [])).length:Int))∧bif ((p_4:Int)+1).toNat.beq ((p_4:Int)+1).toNat then ∃ (p':Unit),True∧(True∧True∧(p_4:Int)=(p_4:Int)∧True∧(p_2.2.length:Int)-1=(p_2.2.length:Int)-1∧(p_4:Int)=(p_4:Int)∧True)∧(q2h book e p_1)∧((p_2.2.set (p_4:Int).toNat (p_2.2.getD ((p_4:Int)+1).toNat [])).set ((p_4:Int)+1).toNat (p_2.2.getD (p_4:Int).toNat [])=Hea.q15 p_2.2 (p_4:Int).toNat∧p.2.2=p.2.2∧p_1.2=p_1.2∧p_2.2=p_2.2∧True)∧True∧True∧(q4b book p_1 p_3)∧True∧True∧True∧True else False else False)∧∀ (p_5:Unit),True→((Hea.q15 p_2.2 (p_4:Int).toNat).length≤(1000000:Nat)∧p.2.2.length≤(1000000:Nat))∧bif Hea.q15 p_2.2 (p_4:Int).toNat==p.2.2 then (0≤(p_4:Int)∧(p_4:Int)<(p_2.2.length:Int))∧(zFit ((p_4:Int)+1))∧(0≤(p_4:Int)+1∧(p_4:Int)+1<(p_2.2.length:Int))∧bif !p_2.2.getD (p_4:Int).toNat []==p_2.2.getD ((p_4:Int)+1).toNat [] then (p_1.2.length+[(List.getD book (p_1.1:Int).toNat Cod.noG).1].length)*(16:Nat)≤(140737488355328:Nat)∧(zFit ((p_1.1:Int)+1))∧∃ (p':Nat×List (List UInt8)),(q7t book e p p')∧List.length book-p'.1<List.length book-p_1.1∧(q98 book p' p_1)∧(q7s e)∧(p.2.2=p.2.2∧p_1.2++[(List.getD book (p_1.1:Int).toNat Cod.noG).1]=p'.2∧True)∧True∧True∧True∧True∧True∧True∧True else (zFit ((p_4:Int)+1))∧∃ (p':Nat),(p'≤p_2.2.length-(1:Nat)∧∀ (i:Nat),i<p'→(Hea.q15 p_2.2 i==p.2.2&&p_2.2.getD i [] != p_2.2.getD (i+(1:Nat)) [])=false)∧p_2.2.length-(1:Nat)-p'<p_2.2.length-(1:Nat)-p_4∧((p_4:Int)+1=(p':Int)∧True∧True∧(p_2.2.length:Int)-1=(p_2.2.length:Int)-1∧True)∧(q2h book e p_1)∧(q26 p p_1 p_2)∧True∧True∧(q4b book p_1 p_3)∧True∧True∧True∧True else (zFit ((p_4:Int)+1))∧∃ (p':Nat),(p'≤p_2.2.length-(1:Nat)∧∀ (i:Nat),i<p'→(Hea.q15 p_2.2 i==p.2.2&&p_2.2.getD i [] != p_2.2.getD (i+(1:Nat)) [])=false)∧p_2.2.length-(1:Nat)-p'<p_2.2.length-(1:Nat)-p_4∧((p_4:Int)+1=(p':Int)∧True∧True∧(p_2.2.length:Int)-1=(p_2.2.length:Int)-1∧True)∧(q2h book e p_1)∧(q26 p p_1 p_2)∧True∧True∧(q4b book p_1 p_3)∧True∧True∧True∧True else (zFit ((p_3:Int)+1))∧∃ (p':Nat),(q9h e p p' p_2)∧(3:Nat)-p'<(3:Nat)-p_3∧(qbb p' p_3)∧(q2h book e p_1)∧(q26 p p_1 p_2)∧True∧True∧(q9k book p_1)∧True∧True∧True∧True) else (zFit ((p_1.1:Int)+1))∧∃ (p':Nat×List (List UInt8)),(q7t book e p p')∧List.length book-p'.1<List.length book-p_1.1∧(q98 book p' p_1)∧(q7s e)∧(p.2.2=p.2.2∧p_1.2=p'.2∧True)∧True∧True∧True∧True∧True∧True∧True else bif (p_1.2.length:Int)==(0:Int) then ([],false,(10:Int))=Hea.q0w e book text else bif (p_1.2.length:Int)==(1:Int) then ((0:Int)≤0∧0<(p_1.2.length:Int))∧(p_1.2.getD (nat_lit 0) [],true,(0:Int))=Hea.q0w e book text else ([],false,(8:Int))=Hea.q0w e book text:=by
 delta q2h q4b qbb q9h q7t zHeJ0_5 q9k q98 zHeJ0_8 q7s q26 qdy qf2 zFit
 obtain ⟨hW,hC,hB,hT⟩:=h;have hT:text.length≤1000:=hT;simp only [true_and,and_true];refine ⟨⟨hW,hC,hB⟩,bifP (λhb=>?_) λhb=>?_⟩
 ·unfold Hea.q0w
  rw [if_pos hb]
 have hp:e.proper book=true:=by simpa using hb
 have hh:Hea.q0w e book text=match Hea.q7b text with
   | none=>([],false,5)
   | some words=>Hea.q0i (Hea.q06 e) e.ws words book []:=by
  unfold Hea.q0w;rw [hp];rfl
 refine ⟨⟨(true,text,[]),⟨rfl,rfl,Nat.zero_le _,Nat.le_refl _⟩,rfl,rfl,rfl⟩,?_⟩;rintro ⟨more,rest,w⟩ hlis;have hlis:q48 text more rest w:=hlis;have hlw:w.length≤5:=hlis.2.2.1;have hlr:rest.length≤text.length:=hlis.2.2.2;dsimp only;refine bifP (λhb=>?_) λhb=>?_
 ·obtain rfl:more=true:=hb
  have bad:Hea.q47 (cutF rest).1=false∨w.length=5→([],false,(5:Int))=Hea.q0w e book text:=λh=>by
   rw [hh,Hea.lis_bad hlis h]
  have hcl:(cutF rest).1.length≤1000000:=by
   unfold cutF;split
   ·dsimp only;rw [List.length_take];omega
   ·dsimp only;omega
  refine ⟨by omega,hcl,bifP (λhb=>bad (.inl (Hea.q9m (.inl hb)))) λh1=>bifP (λhb=>bad (.inl (Hea.q9m (.inr (.inl hb))))) λh2=>bifP (λhb=>bad (.inl (Hea.q9m (.inr (.inr (of_decide_eq_true hb)))))) λh3=>bifP (λhb=>bad (.inr (by have:=eq_of_beq hb;omega))) λh4=>?_⟩
  have h5:w.length<5:=by rw [beq_eq_false_iff_ne] at h4;omega
  have hst:=Hea.lis_step hlis (Hea.word_of h1 h2 (of_decide_eq_false h3)) h5;have hg:(w.length+[(cutF rest).1].length)*16≤140737488355328∧∃ p':Bool×List UInt8×List (List UInt8),q48 text p'.1 p'.2.1 p'.2.2∧((if p'.1=true then p'.2.1.length+1 else 0)<if true=true then rest.length+1 else 0)∧(cutF rest).2.2=p'.1∧(cutF rest).2.1=p'.2.1∧w++[(cutF rest).1]=p'.2.2 :=
   ⟨by rw [List.length_singleton];omega,((cutF rest).2.2,(cutF rest).2.1,w++[(cutF rest).1]),hst,Hea.lis_less,rfl,rfl,rfl⟩
  exact ⟨hg,hg,hg⟩
 ·obtain rfl:more=false:=hb
  have hv:Hea.q0w e book text=Hea.q0i (Hea.q06 e) e.ws w book []:=by rw [hh,Hea.lis_end hlis]
  have hwl:∀ s∈w,s.length≤1000000:=λs hs=>by
   have:=List.all_eq_true.1 hlis.2.1 s hs
   unfold Hea.q47 at this;simp only [Bool.and_eq_true,decide_eq_true_eq] at this;omega
  exact qkf e book w _ _ rfl hp hC hW.2.2 hlw hwl hB.1 hv
theorem inlHe_ok:q0e Tryz.prog inlHe:=q0e.more Tryz.func50 (by kernel_rfl) (by kernel_rfl) (q0e.more Tryz.func97 (by kernel_rfl) (by kernel_rfl) (q0e.more Tryz.func99 (by
  kernel_rfl) (by kernel_rfl) (q0e.more Tryz.func140 (by kernel_rfl) (by kernel_rfl) (q0e.more Tryz.func51 (by kernel_rfl) (by kernel_rfl) (q0e.more
  Tryz.func107 (by kernel_rfl) (by kernel_rfl) (q0e.more Tryz.func102 (by kernel_rfl) (by kernel_rfl) (q0e.more
  Tryz.func103 (by kernel_rfl) (by kernel_rfl) (q0e.more Tryz.func104 (by kernel_rfl) (by kernel_rfl) (q0e.more
  Tryz.func106 (by kernel_rfl) (by kernel_rfl) (q0e.more Tryz.func145 (by kernel_rfl) (by
  kernel_rfl) (q0e.nil)))))))))))
theorem kitHe_ok:kitHe.Ok Tryz.prog where
 cons:=all_cons qap (all_cons qii (all_cons cut_holds (all_cons (show cEqS.lent.Holds Tryz.prog from eqS_holds) all_nil)))
 ns:=all_cons qgj all_nil
 os:=all_cons qfh all_nil
 fcs:=all_cons qkk all_nil
 rcs:=all_nil
 inls:=inlHe_ok
set_option maxRecDepth 100000000 in
theorem qjt:cHear.Holds Tryz.prog:=by
 refine holdsX (T:=kitHe) (λp=>anHe hfHear [] ⟨p.1.1,p.1.2,p.2.1⟩ p.2.2.1 p.2.2.2) Tryz.func18 (by kernel_rfl) (by kernel_rfl) mixed (by kernel_rfl) kitHe_ok (λ_=>[]) λp hp=>?_
 obtain ⟨⟨lang,ws⟩,c,book,text⟩:=p;refine cast ?_ (hear_vc ⟨lang,ws,c⟩ book text hp)
 kernel_rfl
end Go.Proofs.YtfecgebhoondjaaGreatDoor

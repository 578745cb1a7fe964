/-
  Several texts in one: HeG, HeH, HeLB, HeLC, CoGA, HeI, HeJL, HeK, HeJ, HeM.
-/
import Derived.Test.YtfecgebhoondjaaGreatDoorPP
import Derived.Test.YtfecgebhoondjaaGreatDoorPL
import Derived.Test.YtfecgebhoondjaaGreatDoorPA
set_option linter.unusedVariables false
namespace Go.Proofs.YtfecgebhoondjaaGreatDoor
open Go.RowKit
open R
theorem odd_vc (r:Int) (h:cOdd.pre r) :
  bif decide (r<(97:Int)) then true=oddR r else decide ((122:Int)<r)=oddR r
  := by
 unfold oddR
 cases h1:decide (r<97)
 ·show decide (122<r)=(false||decide (122<r)); rw [Bool.false_or]
 ·rfl
theorem cut1_vc (p:List UInt8×List UInt8) (h:cCut1.pre p) :
  p.2=[(32:UInt8)]∧bif decide ((0:Int)≤Lib.indexByte p.1 (32:UInt8)) then ((0:Int)≤(0:Int)∧(0:Int)≤Lib.indexByte p.1 (32:UInt8)∧Lib.indexByte p.1 (32:UInt8) ≤
  (p.1.length:Int))∧((-9223372036854775808:Int)≤Lib.indexByte p.1 (32:UInt8)+(p.2.length:Int)∧Lib.indexByte p.1 (32:UInt8)+(p.2.length:Int)≤(9223372036854775807 :
  Int))∧((0:Int)≤Lib.indexByte p.1 (32:UInt8)+(p.2.length:Int)∧Lib.indexByte p.1 (32:UInt8)+(p.2.length:Int)≤(p.1.length:Int)∧(p.1.length:Int)≤(↑p.1.length :
  Int))∧(List.drop (Int.toNat (0:Int)) (List.take (Lib.indexByte p.1 (32:UInt8)).toNat p.1),List.drop (Lib.indexByte p.1 (32:UInt8)+(p.2.length:Int)).toNat (List.take
  (p.1.length:Int).toNat p.1),true)=cutF p.1 else (p.1,[],false)=cutF p.1
  := by
 obtain ⟨s,sep⟩:=p
 obtain ⟨h1,h2⟩:=h
 have h1:s.length≤1000000:=h1
 obtain rfl:sep=[32]:=h2
 have hlt:0≤Lib.indexByte s 32→Lib.indexByte s 32<(s.length:Int):=fun h0=>by
  obtain ⟨n,hn⟩:=Int.eq_ofNat_of_zero_le h0
  have h3:=(Lib.indexByte_some hn).1
  have h4:n<s.length:=(List.getElem?_eq_some_iff.1 h3).1
  omega
 refine ⟨rfl,bifP (fun hc=>?_) fun hc=>?_⟩
 ·have h0:0≤Lib.indexByte s 32:=of_decide_eq_true hc
  have h3:=hlt h0
  have hl:(([32]:List UInt8).length:Int)=1:=rfl
  refine ⟨⟨by omega,h0,by dsimp only; omega⟩,⟨by dsimp only; omega,by dsimp only; omega⟩,⟨by dsimp only; omega,by dsimp only; omega,Int.le_refl _⟩,?_⟩
  unfold cutF
  rw [if_pos h0]
  dsimp only
  rw [hl,show (Lib.indexByte s 32+1).toNat=(Lib.indexByte s 32).toNat+1 by omega,show ((s.length:Int)).toNat=s.length by omega,List.take_length]
  rfl
 ·unfold cutF
  rw [if_neg (of_decide_eq_false hc)]
theorem cut_vc (p:List UInt8×List UInt8) (h:cCut.pre p) :
  (p.1.length≤(1000000:Nat)∧p.2=[(32:UInt8)])∧cutF p.1=cutF p.1
  := by
 exact ⟨h,rfl⟩
set_option maxRecDepth 100000 in
theorem odd_holds:cOdd.Holds Tryz.prog:=by
 refine q2x (cons:=[]) Tryz.func101 (by kernel_rfl) (by kernel_rfl) mixed (by kernel_rfl) all_nil (fun _=>[]) fun p hp=>?_
 refine cast ?_ (odd_vc p hp)
 kernel_rfl
theorem idx1_holds:cIdx1.Holds Tryz.prog:=by
 refine ⟨⟨⟨_,Tryz.func194,by kernel_rfl,by kernel_rfl⟩,fun F' hF p r hr=>by injection hF with hF; subst hF; exact hr⟩,fun p vs w S hS hp hvs=>?_⟩
 obtain ⟨s,sep⟩:=p
 obtain rfl:sep=[32]:=hp
 obtain ⟨v,v2,rfl,hv,hv2⟩:=qi1 hvs
 obtain rfl:v=.string (bs s):=hv
 obtain rfl:v2=.string (bs [32]):=hv2
 refine (Tryz.stringslite_Index_one (bs s) 32 w).mono ?_
 rintro e w' ⟨rfl,rfl⟩
 exact ⟨Lib.indexByte s 32,_,rfl,rfl,rfl,Below.refl _ _⟩
set_option maxRecDepth 100000 in
theorem cut1_holds:cCut1.Holds Tryz.prog:=by
 refine q2x (cons:=[cIdx1]) Tryz.func169 (by kernel_rfl) (by kernel_rfl) mixed (by kernel_rfl) (all_cons idx1_holds all_nil) (fun _=>[]) fun p hp=>?_
 refine cast ?_ (cut1_vc p hp)
 kernel_rfl
set_option maxRecDepth 100000 in
theorem cut_holds:cCut.Holds Tryz.prog:=by
 refine q2x (cons:=[cCut1]) Tryz.func141 (by kernel_rfl) (by kernel_rfl) mixed (by kernel_rfl) (all_cons cut1_holds all_nil) (fun _=>[]) fun p hp=>?_
 refine cast ?_ (cut_vc p hp)
 kernel_rfl
end Go.Proofs.YtfecgebhoondjaaGreatDoor
set_option linter.unusedVariables false
namespace Go.Proofs.YtfecgebhoondjaaGreatDoor
open Go.RowKit
open R
def fOdd:FCon:={ f:=100,args:=[q27],fa:=.fn 101,res:=[q37],pre:=fun s _=>List.length s≤1000000,F:=fun s _=>List.any s fun c=>!Snd.letB c }
theorem idx_odd (s:List UInt8):∀ (f pos:Nat),s.length-pos≤f→(decide (0≤Lib.idxFuncFrom (fun x=>oddR (x:Int)) true (bs s) f pos))=(s.drop pos).any fun c=>!Snd.letB c
 | 0,pos,h=>by
  rw [List.drop_eq_nil_of_le (by omega)]; rfl
 | f+1,pos,h=>by
  unfold Lib.idxFuncFrom
  by_cases hp:pos<(bs s).size
  ·rw [if_pos hp]
   have hp':pos<s.length:=hp
   obtain ⟨h1,h2,h3⟩:=rune_is s pos hp
   have hd:s.drop pos=s.getD pos 0::s.drop (pos+1):=by
    rw [List.drop_eq_getElem_cons hp',List.getD_eq_getElem?_getD,List.getElem?_eq_getElem hp']; rfl
   rw [hd,List.any_cons]
   cases hl:Snd.letB (s.getD pos 0)
   ·have h3:=h3 hl
    have ho:oddR ((Utf8.decode (bs s) pos).1:Int)=true:=by
     unfold oddR; simp only [Bool.or_eq_true,decide_eq_true_eq]; omega
    rw [if_pos ho,decide_eq_true (Int.natCast_nonneg pos)]; rfl
   ·obtain ⟨h4,h5,h6⟩:=h2 hl
    have ho:oddR (((s.getD pos 0).toNat:Int))=false:=by
     unfold oddR; simp only [Bool.or_eq_false_iff,decide_eq_false_iff_not]; omega
    rw [h4]
    dsimp only
    rw [ho,if_neg (by decide),idx_odd s f (pos+1) (by omega)]; rfl
  ·rw [if_neg hp,List.drop_eq_nil_of_le (by have:(bs s).size=s.length:=rfl; omega)]; rfl
set_option maxRecDepth 100000 in
theorem odd_calls (W:World) (x:Nat):Calls Tryz.prog 101 (#[encR x]++#[]) W fun e w'=>e=.returned (.bool (oddR (x:Int)))∧Below W.heap.size W w':=by
 have h:=odd_holds.2 (x:Int) [.int .i32 x] W (fun _=>False) (fun _ h=>h.elim) trivial ⟨rfl,fun i c hc=>by
  match i,hc with
  | 0,hc=>injection hc with hc; subst hc; exact ⟨_,rfl,rfl⟩
  | i+1,hc=>cases hc⟩
 refine h.mono ?_
 rintro e w' ⟨r,v,rfl,hr,hv,hb⟩
 have hr:r=oddR (x:Int):=hr
 have hv:v=.bool r:=hv
 rw [hv,hr]
 exact ⟨rfl,hb⟩
set_option maxRecDepth 100000 in
theorem qit:fOdd.Holds Tryz.prog:=by
 refine ⟨⟨_,Tryz.func100,by kernel_rfl,by kernel_rfl⟩,fun p b vs fvs w S hS hpre hvs hfa=>?_⟩
 have hfa:fvs=[.func (.func 101) #[] #[]]:=hfa
 subst hfa
 obtain ⟨s,rfl⟩:∃ q:List UInt8,q=p:=⟨p,rfl⟩
 obtain ⟨v,rfl,hv⟩:=q11 hvs
 obtain rfl:v=.string (bs s):=hv
 refine (Tryz.strings_ContainsFunc_grows 101 #[] (enters_of Tryz.func101 (by kernel_rfl) rfl) (fun x=>oddR (x:Int)) (bs s) w (fun W x _ _=>odd_calls W x)).mono ?_
 rintro e w' ⟨rfl,hb⟩
 refine ⟨hb,_,rfl,?_⟩
 have hi:=idx_odd s (bs s).size 0 (by show s.length-0≤s.length; omega)
 rw [List.drop_zero] at hi
 show Value.bool (decide (0≤Lib.idxFunc _ true (bs s)))=Value.bool _
 unfold Lib.idxFunc
 rw [hi]; rfl
end Go.Proofs.YtfecgebhoondjaaGreatDoor
set_option linter.unusedVariables false
namespace Go.Proofs.YtfecgebhoondjaaGreatDoor
namespace Hea
theorem cutW_ne:∀ s:Str,cutW s≠[]
 | []=>by intro h; cases h
 | c::r=>by
  unfold cutW
  split
  ·intro h; cases h
  ·split
   ·intro h; cases h
   ·intro h; cases h
def joinW:List Str→Str
 | []=>[]
 | [w]=>w
 | w::v::r=>w++32::joinW (v::r)
theorem qcx {w:Str} {r:List Str} (h:r≠[]):joinW (w::r)=w++32::joinW r:=by
 cases r with
 | nil=>exact absurd rfl h
 | cons v r=>rfl
theorem join_cut:∀ s:Str,joinW (cutW s)=s
 | []=>rfl
 | c::r=>by
  have ih:=join_cut r
  unfold cutW
  by_cases hc:(c==32)=true
  ·rw [if_pos hc,qcx (cutW_ne r),ih,eq_of_beq hc]; rfl
  ·rw [if_neg hc]
   cases hr:cutW r with
   | nil=>exact absurd hr (cutW_ne r)
   | cons w ws =>
    rw [hr] at ih
    dsimp only
    cases ws with
    | nil=>show c::w=_; rw [show w=r from ih]
    | cons v ws =>
     rw [qcx (by intro h; cases h)] at ih ⊢
     rw [List.cons_append,ih]
theorem joinC_eq (ws:List Str):∀ l:List Int,Cod.qab ws l=joinW (ownW ws l)
 | []=>rfl
 | [i]=>rfl
 | i::k::r=>by
  rw [Cod.joinC_cons,joinC_eq ws (k::r)]
  exact (qcx (by intro h; cases h)).symm
theorem own_len (ws:List Str) (l:List Int):(ownW ws l).length=l.length:=by unfold ownW; rw [List.length_map]
theorem said_cut {text:Str} {words:List Str} (h:q86 text=some words):words=cutW text:=by
 unfold q86 at h
 split at h
 ·injection h with h; exact h.symm
 ·cases h
theorem qgz {e:Cod.Ear} {book:List Cod.Giv} (h:e.proper book=true) {g:Cod.Giv} (hg:g∈book):e.ok=true∧Cod.q2a e.lang e.ws g.2.1=true:=by
 obtain ⟨h1,_,h3,_⟩:=Cod.q68.1 h
 have:=h3 g hg
 unfold Cod.okG at this
 simp only [Bool.and_eq_true] at this
 exact ⟨h1,this.2.2⟩
end Hea
end Go.Proofs.YtfecgebhoondjaaGreatDoor
set_option linter.unusedVariables false
namespace Go.Proofs.YtfecgebhoondjaaGreatDoor
namespace Hea
def q3j (e:Cod.Ear) (g:Cod.Giv) (text:Str) (x y:Str×Bool×Int):Bool :=
 if y.2.2==0&&(!y.2.1&&y.1==g.1) then (x.2.2 != 0||x.2.1)&&((Cod.q5m e.lang e.ws g.2.1).2==0&&(Cod.q5m e.lang e.ws g.2.1).1==text)
 else if x.2.2==0 then (y.2.2==0&&(x.1==y.1&&x.2.1==y.2.1))||(x.2.1&&y.2.2==8)
 else if x.2.2==8 then y.2.2==8
 else if x.2.2==10 then y.2.2==10||(y.2.2==0&&(y.2.1&&y.1==g.1))
 else x.2.2==5&&y.2.2==5
theorem qfd (l:List Str):(l=[]∧endB l=([],false,10))∨(∃ d,l=[d]∧endB l=(d,true,0))∨endB l=([],false,8)∧2≤l.length:=by
 match l with
 | []=>exact .inl ⟨rfl,rfl⟩
 | [d]=>exact .inr (.inl ⟨d,rfl,rfl⟩)
 | _::_::_=>exact .inr (.inr ⟨rfl,by simp⟩)
theorem proper_front {e:Cod.Ear} {book:List Cod.Giv} {g:Cod.Giv} (h:e.proper (book++[g])=true):e.proper book=true:=by
 obtain ⟨h1,h2,h3,h4⟩:=Cod.q68.1 h
 refine Cod.q68.2 ⟨h1,by rw [List.length_append] at h2; omega,fun o ho=>h3 o (List.mem_append_left _ ho),(List.pairwise_append.1 h4).1⟩
theorem further {e:Cod.Ear} {book:List Cod.Giv} {g:Cod.Giv} (h:e.proper (book++[g])=true) (text:Str):q3j e g text (q09 e book text) (q09 e (book++[g]) text)=true:=by
 have hb:=proper_front h
 have hne:∀ o∈book,o.1≠g.1:=fun o ho=>by
  obtain ⟨_,_,_,h4⟩:=Cod.q68.1 h
  exact ((List.pairwise_append.1 h4).2.2 o ho g (List.mem_singleton.2 rfl)).1
 unfold q09
 rw [h,hb]
 cases hs:q86 text with
 | none=>rfl
 | some words =>
  show q3j e g text (q0h (q04 e) e.ws words book []) (q0h (q04 e) e.ws words (book++[g]) [])=true
  rw [qf9,qf9,List.find?_append,List.nil_append,List.nil_append]
  have hdoors:q58 (q04 e) e.ws words (book++[g])=q58 (q04 e) e.ws words book++(if wrong (q04 e) e.ws words g then [g.1] else []):=by
   unfold q58
   rw [List.filter_append,List.map_append,List.filter_cons,List.filter_nil]
   split <;> rfl
  rw [hdoors]
  cases hf:book.find? (exact_ e.ws words) with
  | some o =>
   have hm:=hne o (List.mem_of_find?_eq_some hf)
   show q3j e g text (o.1,false,0) (o.1,false,0)=true
   unfold q3j
   rw [if_neg (by simp [hm])]
   simp
  | none =>
   rw [Option.none_or,List.find?_cons]
   cases hx:exact_ e.ws words g
   ·rw [List.find?_nil]
    dsimp only
    rcases qfd (q58 (q04 e) e.ws words book) with ⟨h0,hE⟩ | ⟨d,h0,hE⟩ | ⟨hE,h0⟩
    ·rw [hE,h0,List.nil_append]
     split
     ·show q3j e g text ([],false,10) (g.1,true,0)=true
      unfold q3j
      simp
     ·rfl
    ·rw [hE,h0]
     split
     ·show q3j e g text (d,true,0) ([],false,8)=true
      unfold q3j
      simp
     ·show q3j e g text (d,true,0) (d,true,0)=true
      unfold q3j
      simp
    ·have h2:endB (q58 (q04 e) e.ws words book++(if wrong (q04 e) e.ws words g then [g.1] else []))=([],false,8):=by
      rcases qfd (q58 (q04 e) e.ws words book++(if wrong (q04 e) e.ws words g then [g.1] else [])) with ⟨q,_⟩ | ⟨d,q,_⟩ | ⟨q,_⟩
      ·have:=congrArg List.length q; rw [List.length_append,List.length_nil] at this; omega
      ·have:=congrArg List.length q; rw [List.length_append,List.length_singleton] at this; omega
      ·exact q
     rw [hE,h2]; rfl
   ·dsimp only
    have hg:g∈book++[g]:=List.mem_append_right _ (List.mem_singleton.2 rfl)
    obtain ⟨hok,hgc⟩:=qgz h hg
    have ht:(Cod.q5m e.lang e.ws g.2.1)=(text,0):=by
     unfold Cod.q5m
     rw [hgc,if_pos rfl,joinC_eq,eq_of_beq hx,said_cut hs,join_cut]
    have hm:((endB (q58 (q04 e) e.ws words book)).2.2 != 0||(endB (q58 (q04 e) e.ws words book)).2.1)=true:=by
     rcases qfd (q58 (q04 e) e.ws words book) with ⟨_,hE⟩ | ⟨d,_,hE⟩ | ⟨hE,_⟩ <;> rw [hE] <;> rfl
    unfold q3j
    rw [if_pos (by simp),hm,ht]
    simp
end Hea
end Go.Proofs.YtfecgebhoondjaaGreatDoor
set_option linter.unusedVariables false
namespace Go.Proofs.YtfecgebhoondjaaGreatDoor
open Go.RowKit
open R
namespace R
def Get.slOf (fs:Kds) (t:Nat) (st:St):List fs.Pay:=match st.get t with
 | .c (.one (.val (.sl fs') xs))=>match fs'.deq fs with
  | some ⟨h⟩=>q39 h xs
  | none=>[]
 | _=>[]
end R
def upL:Up:={ o:=19000,fr:=[(76,[5,8,10,12])],box:=[5,8,10],maps:=[] }
end Go.Proofs.YtfecgebhoondjaaGreatDoor
set_option linter.unusedVariables false
namespace Go.Proofs.YtfecgebhoondjaaGreatDoor
open Go.RowKit
open R
def cHear:Con:=.of 18 [ckWl,ckCf,q7p,q27] [q27,q37,ckErr1] (fun p=>q13 p.1∧q0u p.2.1∧q4p p.2.2.1∧List.length p.2.2.2≤1000) (fun p=>Hea.q09 ⟨p.1.1,p.1.2,p.2.1⟩ p.2.2.1 p.2.2.2)
noncomputable def inlHe:List (Nat×Func):=[(50,Tryz.f50),(97,Tryz.f97),(99,Tryz.f99),(140,Tryz.f140),
 (51,Tryz.f51),(107,Tryz.f107),(102,Tryz.f102),(103,Tryz.f103),(104,Tryz.f104),
 (106,Tryz.f106),(145,Tryz.f145)]
noncomputable def kitHe:Kit:={ cons:=[qao,cAlike,cCut,cEqS.lent],ns:=[nCloneS],os:=[qhn],fcs:=[fOdd],inls:=inlHe }
def q5p (l:List (List UInt8)):Row:=⟨9,kS,l⟩
def R.Get.rowS (r:Nat) (st:St):List (List UInt8):=match st.row r with
 | some y=>match y.fs.deq kS with
  | some ⟨h⟩=>q39 h y.xs
  | none=>[]
 | none=>[]
structure Hf where
 L:Nat
 F:Nat
 upL:List (Nat×List Nat)
 upF:List (Nat×List Nat)
 boxL:List Nat
def Hf.wr (h:Hf):Nat:=(h.L+1)*1000+742
def Hf.dr (h:Hf):Nat:=h.F+60
def Hf.or_ (h:Hf):Nat:=h.F+43
def Hf.sBox (h:Hf):List Nat:=[h.L+11,h.L+2,h.F+4]
def R.keepRows (l:List Nat) (st:St):List (Nat×Row):=l.map fun r=>(r,q5p (Get.rowS r st))
def q3x (text:List UInt8) (more:Bool) (rest:List UInt8) (w:List (List UInt8)):Prop :=
 Hea.cutW text=(if more then w++Hea.cutW rest else w)∧w.all Hea.q6q=true∧w.length≤5∧rest.length≤text.length
def anWords (h:Hf) (text:List UInt8):List (Nat×Ann) :=
 [annX 0 (Bool×List UInt8×List (List UInt8))
  (fun st p=>st.hd { live:=[0,1],sav:=savK 0 ((46,[4,5,6])::h.upL),box:=[h.L+2,h.L+4,h.L+5,h.L+6]++h.boxL,lp:=[4,5,6] } [(3,bool p.1)]
   [((h.L+14)*1000+1,[.val .str p.2.1]),(h.L+11,[.own h.wr,.clo 97 0 [(h.L+2,0)]])] [(h.wr,q5p p.2.2)] [] none)
  (fun _ p=>q3x text p.1 p.2.1 p.2.2)
  (fun _ p=>if p.1 then p.2.1.length+1 else 0)]
def anListen:List (Nat×Ann):=[q9a 7]
def anFindH (h:Hf) (bk:List (Nat×Row)) (e:Cod.Ear) (book:q0f):List (Nat×Ann) :=
 [annX 0 (Nat×List (List UInt8))
  (fun st p=>st.hd { live:=[0,4,10,23],sav:=savK 0 h.upF,box:=h.sBox } [(25,R.int .i64 p.1),(9,ownAV h.dr),(24,R.int .i64 book.length)] [] ([(h.wr,q5p (Get.rowS h.wr st)),(h.dr,q5p p.2)]++bk) [] none)
  (fun st p=>p.1≤book.length∧p.2.length≤p.1∧Hea.q0h (Hea.q04 e) e.ws (Get.rowS h.wr st) book []=Hea.q0h (Hea.q04 e) e.ws (Get.rowS h.wr st) (book.drop p.1) p.2)
  (fun _ p=>book.length-p.1),
 annX 2 (Nat×List (List UInt8))
  (fun st p=>st.hd { live:=[0,4,9,10,12,13,23,24,25,30,31],sav:=savK 0 h.upF,box:=h.sBox++[h.F+12] } [(32,R.int .i64 p.1)] [(h.F+13,[.own h.or_])] ((h.or_,q5p p.2)::(keepRows [h.wr,h.dr] st++bk)) [] none)
  (fun st p=>p.1≤(Get.slOf (.one (.int .i64)) 30 st).length∧p.2=Hea.ownW e.ws ((Get.slOf (.one (.int .i64)) 30 st).take p.1))
  (fun st p=>(Get.slOf (.one (.int .i64)) 30 st).length-p.1),
 q9a 10,q9a 12]
def Hf.sav (h:Hf) (ahead:List (Nat×List Nat)):List Nat:=savK 0 (ahead++[(9,[]),(71,[0,4,9,10,12,23,24,25])]++h.upF)
def Hf.rows (h:Hf) (bk:List (Nat×Row)) (st:St):List (Nat×Row):=keepRows [h.wr,h.dr,h.or_] st++bk
def anIndexH (h:Hf) (bk:List (Nat×Row)) (e:Cod.Ear):List (Nat×Ann) :=
 [annX 0 Nat
  (fun st p=>st.hd { live:=[0,1,7],sav:=h.sav [],box:=h.sBox++[h.F+12,h.F+13] } [(8,R.int .i64 p)] [] (h.rows bk st) [] none)
  (fun st p=>p≤3∧(1≤p→Hea.q2q (Hea.q04 e) (Get.rowS h.or_ st) (Get.rowS h.wr st)=false)∧(2≤p→Hea.q36 (Get.rowS h.or_ st) (Get.rowS h.wr st)=false)∧(3≤p→Hea.q35 (Get.rowS h.or_ st) (Get.rowS h.wr st)=false))
  (fun _ p=>3-p)]
def Hf.savW (h:Hf):List Nat:=h.sav [(7,[]),(19,[0,1,5,7,8])]
def Hf.boxW (h:Hf):List Nat:=h.sBox++[h.F+12,h.F+13]
def anReplH (h:Hf) (bk:List (Nat×Row)) (e:Cod.Ear):List (Nat×Ann) :=
 [annX 0 (Nat×Nat)
  (fun st p=>st.hd { live:=[0,1,19,20],sav:=h.savW,box:=h.boxW } [(21,R.int .i64 p.1),(5,R.int .i64 p.2)] [] (h.rows bk st) [] none)
  (fun st p=>p.1≤(Get.rowS h.wr st).length∧p.2=(Hea.diff ((Get.rowS h.or_ st).take p.1) ((Get.rowS h.wr st).take p.1)).length∧(Hea.diff ((Get.rowS h.or_ st).take p.1) ((Get.rowS h.wr st).take p.1)).all (fun q=>Hea.q04 e q.1 q.2)=true)
  (fun st p=>(Get.rowS h.wr st).length-p.1),
 q9a 9]
def anMissH (h:Hf) (bk:List (Nat×Row)):List (Nat×Ann) :=
 [annX 0 Nat
  (fun st p=>st.hd { live:=[0,1,7],sav:=h.savW,box:=h.boxW } [(8,R.int .i64 p)] [] (h.rows bk st) [] none)
  (fun st p=>p≤(Get.rowS h.or_ st).length∧∀ i,i<p→((Get.rowS h.or_ st).eraseIdx i==Get.rowS h.wr st)=false)
  (fun st p=>(Get.rowS h.or_ st).length-p),
 q9a 4]
def anExchH (h:Hf) (bk:List (Nat×Row)):List (Nat×Ann) :=
 [annX 0 Nat
  (fun st p=>st.hd { live:=[0,1,9],sav:=h.savW,box:=h.boxW } [(10,R.int .i64 p)] [] (h.rows bk st) [] none)
  (fun st p=>p≤(Get.rowS h.or_ st).length-1∧∀ i,i<p→(Hea.q19 (Get.rowS h.or_ st) i==Get.rowS h.wr st&&(Get.rowS h.or_ st).getD i [] != (Get.rowS h.or_ st).getD (i+1) [])=false)
  (fun st p=>(Get.rowS h.or_ st).length-1-p),
 annX 2000006 Unit
  (fun st _=>st.hd { live:=[0,1,5,6,9,10],sav:=h.savW,box:=h.boxW } [] [] (((st.off+15)*1000,q5p (Hea.q19 (Get.rowS h.or_ st) (st.intOf 5).toNat))::h.rows bk st) [] none)
  (fun _ _=>True)
  (fun _ _=>0),
 q9a 6]
def anHe (h:Hf) (bk:List (Nat×Row)) (e:Cod.Ear) (book:q0f) (text:List UInt8):Nat→List (Nat×Ann):=fun f =>
 bif Nat.beq f 140 then anWords h text
 else bif Nat.beq f 50 then anListen
 else bif Nat.beq f 51 then anFindH h bk e book
 else bif Nat.beq f 145 then anIndexH h bk e
 else bif Nat.beq f 102 then anReplH h bk e
 else bif Nat.beq f 103 then anMissH h bk
 else bif Nat.beq f 104 then anExchH h bk
 else []
def hfHear:Hf:={ L:=22000,F:=30000,upL:=[(33,[2,4])],upF:=[],boxL:=[4] }
end Go.Proofs.YtfecgebhoondjaaGreatDoor
set_option linter.unusedVariables false
namespace Go.Proofs.YtfecgebhoondjaaGreatDoor
open Go.RowKit
open R
namespace Hea
theorem diff_snoc:∀ {a b:List Str} (x y:Str),a.length=b.length→diff (a++[x]) (b++[y])=diff a b++(if x==y then [] else [(x,y)])
 | [],[],x,y,_=>by
  show diff [x] [y]=_
  rw [diff]
  split <;> rfl
 | [],_::_,_,_,h=>by cases h
 | _::_,[],_,_,h=>by cases h
 | u::a,v::b,x,y,h=>by
  rw [List.cons_append,List.cons_append,diff,diff,diff_snoc x y (by simpa using h)]
  split
  ·rfl
  ·rfl
theorem diff_step {own words:List Str} {k:Nat} (h1:k<own.length) (h2:k<words.length):diff (own.take (k+1)) (words.take (k+1))=diff (own.take k) (words.take k)++(if own.getD k []==words.getD k [] then [] else [(own.getD k [],words.getD k [])]):=by
 rw [Snd.q21 own [] k h1,Snd.q21 words [] k h2,diff_snoc _ _ (by rw [List.length_take,List.length_take]; omega)]
theorem diff_mem {a b:List Str} {p:Str×Str}:∀ {k:Nat},p∈diff (a.take k) (b.take k)→p∈diff a b:=by
 intro k
 induction a generalizing b k with
 | nil=>intro h; rw [List.take_nil] at h; exact h
 | cons x a ih =>
  cases b with
  | nil=>intro h; rw [List.take_nil] at h; cases k <;> cases h
  | cons y b =>
   cases k with
   | zero=>intro h; cases h
   | succ k =>
    intro h
    rw [List.take_succ_cons,List.take_succ_cons,diff] at h
    rw [diff]
    split
    ·rename_i hxy
     rw [if_pos hxy] at h
     exact ih h
    ·rename_i hxy
     rw [if_neg hxy] at h
     rcases List.mem_cons.1 h with rfl | h
     ·exact List.mem_cons_self
     ·exact List.mem_cons_of_mem _ (ih h)
theorem diff_at {own words:List Str} {k:Nat} (h1:k<own.length) (h2:k<words.length) (hne:(words.getD k []==own.getD k [])=false):(own.getD k [],words.getD k [])∈diff own words:=by
 refine diff_mem (k:=k+1) ?_
 rw [diff_step h1 h2]
 refine List.mem_append_right _ ?_
 have:(own.getD k []==words.getD k [])=false:=by
  rw [beq_eq_false_iff_ne] at hne ⊢
  exact fun e=>hne e.symm
 rw [this]
 exact List.mem_singleton.2 rfl
theorem repl_part (e:Cod.Ear) (own words:List Str) {Y N:Prop} (hc:q0u e.c) (ho:∀ s∈own,s.length≤1000000) (hs:∀ s∈words,s.length≤1000000) (hw:words.length≤1000000) (hY:q2q (q04 e) own words=true→Y) (hN:q2q (q04 e) own words=false→N) :
  bif (own.length:Int) != (words.length:Int) then N else
   (∃ p':Nat×Nat,(p'.1≤words.length∧p'.2=(diff (own.take p'.1) (words.take p'.1)).length∧((diff (own.take p'.1) (words.take p'.1)).all fun q:Str×Str=>q04 e q.1 q.2)=true)∧(0:Int)=(p'.1:Int)∧(0:Int)=(p'.2:Int)) ∧
   ∀ p4:Nat×Nat,p4.1≤words.length∧p4.2=(diff (own.take p4.1) (words.take p4.1)).length∧((diff (own.take p4.1) (words.take p4.1)).all fun q:Str×Str=>q04 e q.1 q.2)=true →
    bif decide ((p4.1:Int)<(words.length:Int)) then
     ((0:Int)≤(p4.1:Int)∧(p4.1:Int)<(words.length:Int))∧((0:Int)≤(p4.1:Int)∧(p4.1:Int)<(own.length:Int)) ∧
     bif !(words.getD (p4.1:Int).toNat []==own.getD (p4.1:Int).toNat []) then
      ((-9223372036854775808:Int)≤(p4.2:Int)+1∧(p4.2:Int)+1≤(9223372036854775807:Int))∧((0:Int)≤(p4.1:Int)∧(p4.1:Int)<(own.length:Int)) ∧
      (q0u e.c∧(own.getD (p4.1:Int).toNat []).length≤(1000000:Nat)∧(words.getD (p4.1:Int).toNat []).length≤(1000000:Nat)) ∧
      bif !(Snd.q28 e.c (own.getD (p4.1:Int).toNat []) (words.getD (p4.1:Int).toNat [])) then N else
       ((-9223372036854775808:Int)≤(p4.1:Int)+1∧(p4.1:Int)+1≤(9223372036854775807:Int))∧∃ p':Nat×Nat,(p'.1≤words.length∧p'.2=(diff (own.take p'.1) (words.take p'.1)).length∧((diff (own.take p'.1) (words.take p'.1)).all fun q:Str×Str=>q04 e q.1 q.2)=true) ∧
        words.length-p'.1<words.length-p4.1∧(p4.1:Int)+1=(p'.1:Int)∧(p4.2:Int)+1=(p'.2:Int)
     else
      ((-9223372036854775808:Int)≤(p4.1:Int)+1∧(p4.1:Int)+1≤(9223372036854775807:Int))∧∃ p':Nat×Nat,(p'.1≤words.length∧p'.2=(diff (own.take p'.1) (words.take p'.1)).length∧((diff (own.take p'.1) (words.take p'.1)).all fun q:Str×Str=>q04 e q.1 q.2)=true) ∧
       words.length-p'.1<words.length-p4.1∧(p4.1:Int)+1=(p'.1:Int)∧(p4.2:Int)=(p'.2:Int)
    else bif (p4.2:Int)==(1:Int) then Y else N:=by
 refine bifP (fun hb=>hN ?_) fun hb=>?_
 ·unfold q2q
  have:(own.length==words.length)=false:=by
   rw [beq_eq_false_iff_ne]; rw [bne_iff_ne] at hb; omega
  rw [this,Bool.false_and]
 have hl:own.length=words.length:=by
  have:((own.length:Int)==(words.length:Int))=true:=by
   unfold bne at hb; simpa using hb
  have:=eq_of_beq this; omega
 refine ⟨⟨(0,0),⟨Nat.zero_le _,rfl,rfl⟩,rfl,rfl⟩,?_⟩
 rintro ⟨k,n⟩ ⟨hk,hn,ha⟩
 have hk:k≤words.length:=hk
 have hn:n=(diff (own.take k) (words.take k)).length:=hn
 have hti:((k:Int).toNat)=k:=rfl
 dsimp only
 rw [hti]
 refine bifP (fun hb=>?_) fun hb=>?_
 ·have hkw:k<words.length:=by have:=of_decide_eq_true hb; omega
  have hko:k<own.length:=by omega
  have hst:=diff_step hko hkw
  refine ⟨⟨by omega,by omega⟩,⟨by omega,by omega⟩,bifP (fun hb=>?_) fun hb=>?_⟩
  ·have hne:(words.getD k []==own.getD k [])=false:=by simpa using hb
   have hne2:(own.getD k []==words.getD k [])=false:=by
    rw [beq_eq_false_iff_ne] at hne ⊢
    exact fun e=>hne e.symm
   have hnk:n≤k:=by
    have h1:∀ (a b:List Str),(diff a b).length≤a.length:=by
     intro a
     induction a with
     | nil=>intro b; exact Nat.zero_le _
     | cons x a ih =>
      intro b
      cases b with
      | nil=>exact Nat.zero_le _
      | cons y b =>
       rw [diff]
       have:=ih b
       split <;> simp only [List.length_cons] <;> omega
    have h2:=h1 (own.take k) (words.take k)
    rw [List.length_take] at h2
    omega
   refine ⟨⟨by omega,by omega⟩,⟨by omega,by omega⟩,⟨hc,ho _ (Snd.q1r own [] k hko),hs _ (Snd.q1r words [] k hkw)⟩,bifP (fun hb=>hN ?_) fun hb=>⟨⟨by omega,by omega⟩,(k+1,n+1),⟨hkw,?_,?_⟩,?_,by push_cast; rfl,by push_cast; rfl⟩⟩
   ·have hna:Snd.q28 e.c (own.getD k []) (words.getD k [])=false:=by simpa using hb
    unfold q2q
    have:(diff own words).all (fun p=>q04 e p.1 p.2)=false:=by
     rw [List.all_eq_false]
     exact ⟨_,diff_at hko hkw hne,by show ¬ Snd.q28 e.c (own.getD k []) (words.getD k [])=true; rw [hna]; decide⟩
    rw [this,Bool.false_and,Bool.and_false]
   ·show n+1=_
    rw [hst,hne2,hn,List.length_append]; rfl
   ·rw [hst,hne2,List.all_append,ha]
    show (true&&(q04 e (own.getD k []) (words.getD k [])&&true))=true
    have:Snd.q28 e.c (own.getD k []) (words.getD k [])=true:=by simpa using hb
    show (true&&(Snd.q28 e.c (own.getD k []) (words.getD k [])&&true))=true
    rw [this]; rfl
   ·show words.length-(k+1)<words.length-k; omega
  ·have heq:(words.getD k []==own.getD k [])=true:=by simpa using hb
   have heq2:(own.getD k []==words.getD k [])=true:=by rw [beq_iff_eq] at heq ⊢; exact heq.symm
   refine ⟨⟨by omega,by omega⟩,(k+1,n),⟨hkw,?_,?_⟩,?_,by push_cast; rfl,rfl⟩
   ·show n=_
    rw [hst,heq2,hn,if_pos rfl,List.append_nil]
   ·rw [hst,heq2,if_pos rfl,List.append_nil]; exact ha
   ·show words.length-(k+1)<words.length-k; omega
 ·have hle:words.length≤k:=by have:=of_decide_eq_false hb; omega
  rw [List.take_of_length_le (show own.length≤k by omega),List.take_of_length_le hle] at hn ha
  have hv:q2q (q04 e) own words=(n==1):=by
   unfold q2q
   rw [hl,beq_self_eq_true,Bool.true_and,hn]
   show ((diff own words).all (fun p=>q04 e p.1 p.2)&&_)=_
   rw [show (diff own words).all (fun p=>q04 e p.1 p.2)=true from ha,Bool.true_and]
  refine bifP (fun hb=>hY ?_) fun hb=>hN ?_
  ·rw [hv]; have:=eq_of_beq hb; rw [beq_iff_eq]; omega
  ·rw [hv]; rw [beq_eq_false_iff_ne] at hb ⊢; omega
theorem miss_part (own words:List Str) {Y N:Prop} (hl:own.length≤1000000) (hw:words.length≤1000000) (hY:q36 own words=true→Y) (hN:q36 own words=false→N) :
  (∃ p':Nat,(p'≤own.length∧∀ i:Nat,i<p'→(own.eraseIdx i==words)=false)∧(0:Int)=(p':Int)) ∧
  ∀ p4:Nat,(p4≤own.length∧∀ i:Nat,i<p4→(own.eraseIdx i==words)=false) →
   bif decide ((p4:Int)<(own.length:Int)) then
    ((-9223372036854775808:Int)≤(p4:Int)+1∧(p4:Int)+1≤(9223372036854775807:Int))∧(own.length≤(1000000:Nat)∧(((0:Int)≤(p4:Int)∧(p4:Int)<(own.length:Int))∧((own.eraseIdx (p4:Int).toNat).length≤(1000000:Nat)∧words.length≤(1000000:Nat)) ∧
     bif own.eraseIdx (p4:Int).toNat==words then Y else
      ((-9223372036854775808:Int)≤(p4:Int)+1∧(p4:Int)+1≤(9223372036854775807:Int))∧∃ p':Nat,(p'≤own.length∧∀ i:Nat,i<p'→(own.eraseIdx i==words)=false)∧own.length-p'<own.length-p4∧(p4:Int)+1=(p':Int)) ∧
     ((0:Int)≤(p4:Int)∧(p4:Int)<(own.length:Int))∧((own.eraseIdx (p4:Int).toNat).length≤(1000000:Nat)∧words.length≤(1000000:Nat)) ∧
     bif own.eraseIdx (p4:Int).toNat==words then Y else
      ((-9223372036854775808:Int)≤(p4:Int)+1∧(p4:Int)+1≤(9223372036854775807:Int))∧∃ p':Nat,(p'≤own.length∧∀ i:Nat,i<p'→(own.eraseIdx i==words)=false)∧own.length-p'<own.length-p4∧(p4:Int)+1=(p':Int)) ∧
    own.length≤(1000000:Nat)∧((0:Int)≤(p4:Int)∧(p4:Int)<(own.length:Int))∧((own.eraseIdx (p4:Int).toNat).length≤(1000000:Nat)∧words.length≤(1000000:Nat)) ∧
     bif own.eraseIdx (p4:Int).toNat==words then Y else
      ((-9223372036854775808:Int)≤(p4:Int)+1∧(p4:Int)+1≤(9223372036854775807:Int))∧∃ p':Nat,(p'≤own.length∧∀ i:Nat,i<p'→(own.eraseIdx i==words)=false)∧own.length-p'<own.length-p4∧(p4:Int)+1=(p':Int)
   else N:=by
 refine ⟨⟨0,⟨Nat.zero_le _,fun i h=>absurd h (Nat.not_lt_zero _)⟩,rfl⟩,?_⟩
 rintro k ⟨hk,hno⟩
 have hti:((k:Int).toNat)=k:=rfl
 rw [hti]
 refine bifP (fun hb=>?_) fun hb=>hN ?_
 ·have hlt:k<own.length:=by have:=of_decide_eq_true hb; omega
  have he:(own.eraseIdx k).length≤1000000:=by rw [List.length_eraseIdx_of_lt hlt]; omega
  have hg:bif own.eraseIdx k==words then Y else
    ((-9223372036854775808:Int)≤(k:Int)+1∧(k:Int)+1≤(9223372036854775807:Int))∧∃ p':Nat,(p'≤own.length∧∀ i:Nat,i<p'→(own.eraseIdx i==words)=false)∧own.length-p'<own.length-k∧(k:Int)+1=(p':Int):=by
   refine bifP (fun hb=>hY ?_) fun hb=>⟨⟨by omega,by omega⟩,k+1,⟨hlt,fun i hi=>?_⟩,by omega,by push_cast; rfl⟩
   ·unfold q36
    exact List.any_eq_true.2 ⟨k,List.mem_range.2 hlt,hb⟩
   ·by_cases h:i=k
    ·rw [h]; exact hb
    ·exact hno i (by omega)
  exact ⟨⟨by omega,by omega⟩,⟨hl,⟨⟨by omega,by omega⟩,⟨he,hw⟩,hg⟩,⟨by omega,by omega⟩,⟨he,hw⟩,hg⟩,hl,⟨by omega,by omega⟩,⟨he,hw⟩,hg⟩
 ·have hle:own.length≤k:=by have:=of_decide_eq_false hb; omega
  unfold q36
  rw [List.any_eq_false]
  intro i hi
  rw [hno i (by have:=List.mem_range.1 hi; omega)]
  decide
theorem swap_len_ (own:List Str) (i:Nat):(q19 own i).length=own.length:=by unfold q19; rw [List.length_set,List.length_set]
theorem exch_part (own words:List Str) {Y N:Prop} (hl:own.length≤1000000) (hw:words.length≤1000000) (hY:q35 own words=true→Y) (hN:q35 own words=false→N) :
  ((-9223372036854775808:Int)≤(own.length:Int)-1∧(own.length:Int)-1≤(9223372036854775807:Int)) ∧
  (∃ p':Nat,(p'≤own.length-1∧∀ i:Nat,i<p'→(q19 own i==words&&own.getD i [] != own.getD (i+1) [])=false)∧(0:Int)=(p':Int)) ∧
  ∀ p4:Nat,(p4≤own.length-1∧∀ i:Nat,i<p4→(q19 own i==words&&own.getD i [] != own.getD (i+1) [])=false) →
   bif decide ((p4:Int)<(own.length:Int)-1) then
    own.length≤(1000000:Nat) ∧
    (((-9223372036854775808:Int)≤(p4:Int)+1∧(p4:Int)+1≤(9223372036854775807:Int))∧((0:Int)≤(p4:Int)+1∧(p4:Int)+1<(own.length:Int))∧((0:Int)≤(p4:Int)∧(p4:Int)<(own.length:Int))∧((0:Int)≤(p4:Int)∧(p4:Int)<(own.length:Int)) ∧
     ((-9223372036854775808:Int)≤(p4:Int)+1∧(p4:Int)+1≤(9223372036854775807:Int)) ∧
     bif (p4:Int).toNat.beq (p4:Int).toNat then
      ((0:Int)≤(p4:Int)+1∧(p4:Int)+1<((own.set (p4:Int).toNat (own.getD ((p4:Int)+1).toNat [])).length:Int)) ∧
      bif ((p4:Int)+1).toNat.beq ((p4:Int)+1).toNat then
       ∃ p':Unit,(own.set (p4:Int).toNat (own.getD ((p4:Int)+1).toNat [])).set ((p4:Int)+1).toNat (own.getD (p4:Int).toNat [])=q19 own (p4:Int).toNat
      else False
     else False) ∧
    ∀ p5:Unit,True →
     ((q19 own (p4:Int).toNat).length≤(1000000:Nat)∧words.length≤(1000000:Nat)) ∧
     bif q19 own (p4:Int).toNat==words then
      ((0:Int)≤(p4:Int)∧(p4:Int)<(own.length:Int))∧((-9223372036854775808:Int)≤(p4:Int)+1∧(p4:Int)+1≤(9223372036854775807:Int))∧((0:Int)≤(p4:Int)+1∧(p4:Int)+1<(own.length:Int)) ∧
      bif !(own.getD (p4:Int).toNat []==own.getD ((p4:Int)+1).toNat []) then Y else
       ((-9223372036854775808:Int)≤(p4:Int)+1∧(p4:Int)+1≤(9223372036854775807:Int))∧∃ p':Nat,(p'≤own.length-1∧∀ i:Nat,i<p'→(q19 own i==words&&own.getD i [] != own.getD (i+1) [])=false)∧own.length-1-p'<own.length-1-p4∧(p4:Int)+1=(p':Int)
     else
      ((-9223372036854775808:Int)≤(p4:Int)+1∧(p4:Int)+1≤(9223372036854775807:Int))∧∃ p':Nat,(p'≤own.length-1∧∀ i:Nat,i<p'→(q19 own i==words&&own.getD i [] != own.getD (i+1) [])=false)∧own.length-1-p'<own.length-1-p4∧(p4:Int)+1=(p':Int)
   else N:=by
 refine ⟨⟨by omega,by omega⟩,⟨0,⟨Nat.zero_le _,fun i h=>absurd h (Nat.not_lt_zero _)⟩,rfl⟩,?_⟩
 rintro k ⟨hk,hno⟩
 have hti:((k:Int).toNat)=k:=rfl
 have hti1:(((k:Int)+1).toNat)=k+1:=by omega
 rw [hti,hti1]
 refine bifP (fun hb=>?_) fun hb=>hN ?_
 ·have hlt:k+1<own.length:=by have:=of_decide_eq_true hb; omega
  have hnext:(q19 own k==words&&own.getD k [] != own.getD (k+1) [])=false→((-9223372036854775808:Int)≤(k:Int)+1∧(k:Int)+1≤(9223372036854775807:Int))∧∃ p':Nat,(p'≤own.length-1∧∀ i:Nat,i<p'→(q19 own i==words&&own.getD i [] != own.getD (i+1) [])=false)∧own.length-1-p'<own.length-1-k∧(k:Int)+1=(p':Int):=fun hf=>by
   refine ⟨⟨by omega,by omega⟩,k+1,⟨by omega,fun i hi=>?_⟩,by omega,by push_cast; rfl⟩
   by_cases h:i=k
   ·rw [h]; exact hf
   ·exact hno i (by omega)
  have hbq:∀ n:Nat,n.beq n=true:=fun n=>Nat.beq_refl n
  refine ⟨hl,⟨⟨by omega,by omega⟩,⟨by omega,by omega⟩,⟨by omega,by omega⟩,⟨by omega,by omega⟩,⟨by omega,by omega⟩,?_⟩,fun _ _=>⟨⟨by rw [swap_len_]; exact hl,hw⟩,bifP (fun hb=>?_) fun hb=>hnext (by rw [hb]; rfl)⟩⟩
  ·rw [hbq,cond_true,hbq,cond_true,List.length_set]
   exact ⟨⟨by omega,by omega⟩,(),rfl⟩
  ·refine ⟨⟨by omega,by omega⟩,⟨by omega,by omega⟩,⟨by omega,by omega⟩,bifP (fun hb2=>hY ?_) fun hb2=>hnext ?_⟩
   ·unfold q35
    exact List.any_eq_true.2 ⟨k,List.mem_range.2 (by omega),by rw [hb,Bool.true_and]; exact hb2⟩
   ·rw [hb,Bool.true_and]; exact hb2
 ·have hle:own.length≤k+1:=by have:=of_decide_eq_false hb; omega
  unfold q35
  rw [List.any_eq_false]
  intro i hi
  rw [hno i (by have:=List.mem_range.1 hi; omega)]
  decide
theorem cut_eq:∀ s:Str,cutW s=if 0≤Lib.indexByte s 32 then (cutF s).1::cutW (cutF s).2.1 else [s]
 | []=>rfl
 | c::r=>by
  have ih:=cut_eq r
  have hge:=Lib.indexByte_ge r 32
  by_cases hc:(c==32)=true
  ·have hi:Lib.indexByte (c::r) 32=0:=by unfold Lib.indexByte; rw [if_pos hc]
   have hf:cutF (c::r)=([],r,true):=by unfold cutF; rw [hi]; rfl
   rw [cutW,if_pos hc,hi,if_pos (Int.le_refl 0),hf]
  ·have hi:Lib.indexByte (c::r) 32=if Lib.indexByte r 32==-1 then -1 else Lib.indexByte r 32+1:=by
    conv=>lhs; unfold Lib.indexByte
    rw [if_neg hc]
   rw [cutW,if_neg hc,ih]
   by_cases h0:0≤Lib.indexByte r 32
   ·have hb:(Lib.indexByte r 32==-1)=false:=by rw [beq_eq_false_iff_ne]; omega
    rw [hb,if_neg (by decide)] at hi
    rw [if_pos h0,hi,if_pos (by omega)]
    obtain ⟨n,hn⟩:=Int.eq_ofNat_of_zero_le h0
    unfold cutF
    rw [hi,if_pos h0,if_pos (by omega),hn]
    dsimp only
    rw [show ((n:Int)+1).toNat=n+1 by omega,show ((n:Int)).toNat=n by omega,List.take_succ_cons,List.drop_succ_cons]
   ·have hm:Lib.indexByte r 32=-1:=by omega
    rw [hm] at hi
    rw [if_neg h0,hi]
    rfl
theorem lis_step {text rest:Str} {w:List Str} (h:q3x text true rest w) (h1:q6q (cutF rest).1=true) (h5:w.length<5):q3x text (cutF rest).2.2 (cutF rest).2.1 (w++[(cutF rest).1]):=by
 obtain ⟨hc,ha,hl,hr⟩:=h
 rw [if_pos rfl,cut_eq rest] at hc
 refine ⟨?_,by rw [List.all_append,ha,List.all_cons,h1]; rfl,by rw [List.length_append,List.length_singleton]; omega,?_⟩
 ·by_cases h0:0≤Lib.indexByte rest 32
  ·rw [if_pos h0] at hc
   rw [show (cutF rest).2.2=true by unfold cutF; rw [if_pos h0],if_pos rfl,hc,List.append_assoc]; rfl
  ·rw [if_neg h0] at hc
   rw [show (cutF rest).2.2=false by unfold cutF; rw [if_neg h0],if_neg (by decide),hc,show (cutF rest).1=rest by unfold cutF; rw [if_neg h0]]
 ·refine Nat.le_trans ?_ hr
  unfold cutF
  split
  ·dsimp only; rw [List.length_drop]; omega
  ·exact Nat.zero_le _
theorem lis_less {rest:Str}:(if (cutF rest).2.2=true then (cutF rest).2.1.length+1 else 0)<rest.length+1:=by
 unfold cutF
 by_cases h0:0≤Lib.indexByte rest 32
 ·rw [if_pos h0]
  dsimp only
  rw [if_pos rfl,List.length_drop]
  obtain ⟨n,hn⟩:=Int.eq_ofNat_of_zero_le h0
  have h3:=(Lib.indexByte_some hn).1
  have h4:n<rest.length:=(List.getElem?_eq_some_iff.1 h3).1
  omega
 ·rw [if_neg h0]
  dsimp only
  rw [if_neg (by decide)]; omega
theorem lis_bad {text rest:Str} {w:List Str} (h:q3x text true rest w) (h1:q6q (cutF rest).1=false∨w.length=5):q86 text=none:=by
 obtain ⟨hc,ha,hl,hr⟩:=h
 rw [if_pos rfl,cut_eq rest] at hc
 unfold q86
 rw [if_neg]
 rw [Bool.and_eq_true,decide_eq_true_eq]
 rintro ⟨q1,q2⟩
 by_cases h0:0≤Lib.indexByte rest 32
 ·rw [if_pos h0] at hc
  rw [hc] at q1 q2
  rw [List.all_append,List.all_cons,Bool.and_eq_true,Bool.and_eq_true] at q1
  rw [List.length_append,List.length_cons] at q2
  rcases h1 with h1 | h1
  ·rw [h1] at q1; exact absurd q1.2.1 (by decide)
  ·omega
 ·rw [if_neg h0] at hc
  have hf:(cutF rest).1=rest:=by unfold cutF; rw [if_neg h0]
  rw [hc] at q1 q2
  rw [List.all_append,List.all_cons,Bool.and_eq_true,Bool.and_eq_true] at q1
  rw [List.length_append,List.length_cons] at q2
  rcases h1 with h1 | h1
  ·rw [hf] at h1; rw [h1] at q1; exact absurd q1.2.1 (by decide)
  ·omega
theorem lis_end {text rest:Str} {w:List Str} (h:q3x text false rest w):q86 text=some w:=by
 obtain ⟨hc,ha,hl,hr⟩:=h
 rw [if_neg (by decide)] at hc
 unfold q86
 rw [hc,ha,decide_eq_true hl]; rfl
theorem word_of {s:Str} (h1:(s.any fun c=>!Snd.letB c)=false) (h2:(s==[])=false) (h3:¬ (12:Int)<(s.length:Int)):q6q s=true:=by
 unfold q6q
 simp only [Bool.and_eq_true,decide_eq_true_eq,Bool.not_eq_true',List.isEmpty_eq_false_iff]
 refine ⟨by rw [beq_eq_false_iff_ne] at h2; exact h2,by omega,?_⟩
 rw [List.all_eq_true]
 intro c hc
 rw [List.any_eq_false] at h1
 have:=h1 c hc
 unfold Snd.letB at this
 simpa using this
theorem q8j {s:Str} (h:(s.any fun c=>!Snd.letB c)=true∨(s==[])=true∨(12:Int)<(s.length:Int)):q6q s=false:=by
 rw [← Bool.not_eq_true]
 unfold q6q
 simp only [Bool.and_eq_true,decide_eq_true_eq,Bool.not_eq_true',List.isEmpty_eq_false_iff]
 rintro ⟨h1,h2,h3⟩
 rcases h with h | h | h
 ·obtain ⟨c,hc,hn⟩:=List.any_eq_true.1 h
  rw [List.all_eq_true] at h3
  have:=h3 c hc
  unfold Snd.letB at hn
  rw [Bool.not_eq_true',Bool.and_eq_false_iff,decide_eq_false_iff_not,decide_eq_false_iff_not] at hn
  simp only [Bool.and_eq_true,decide_eq_true_eq] at this
  omega
 ·exact h1 (eq_of_beq h)
 ·omega
end Hea
end Go.Proofs.YtfecgebhoondjaaGreatDoor
set_option linter.unusedVariables false
namespace Go.Proofs.YtfecgebhoondjaaGreatDoor
open Go.RowKit
open R
theorem ownH_snoc (ws:List (List UInt8)) (code:List Int) (k:Nat) (hk:k<code.length):Hea.ownW ws (code.take k)++[ws.getD (code.getD k 0).toNat []]=Hea.ownW ws (code.take (k+1)):=by
 rw [Snd.q21 code 0 k hk]
 unfold Hea.ownW
 rw [List.map_append]; rfl
theorem ownH_long (ws:List (List UInt8)) (h:∀ s∈ws,s.length≤1000000) (code:List Int):∀ s∈Hea.ownW ws code,s.length≤1000000:=by
 intro s hs
 obtain ⟨i,_,rfl⟩:=List.mem_map.1 hs
 by_cases hi:i.toNat<ws.length
 ·exact h _ (Snd.q1r ws [] _ hi)
 ·rw [List.getD_eq_getElem?_getD,List.getElem?_eq_none (by omega)]; exact Nat.zero_le _
set_option maxRecDepth 100000 in
theorem qiu (e:Cod.Ear) (book:q0f) (w:List (List UInt8)) (R:List UInt8×Bool×Int) (m:Nat) (hm:m=3) (hp:e.proper book=true) (hC:q0u e.c) (hW:∀ s∈e.ws,s.length≤1000000) (hw:w.length≤5) (hwl:∀ s∈w,s.length≤1000000) (hB:book.length≤1000000) (hR:R=Hea.q0h (Hea.q04 e) e.ws w book []) :
  (∃ (p':Nat×List (List UInt8)),(p'.1≤List.length book∧p'.2.length≤p'.1∧Hea.q0h (Hea.q04 e) e.ws w book []=Hea.q0h (Hea.q04 e) e.ws w (List.drop p'.1 book) p'.2)∧(0
  : Int)=(p'.1:Int)∧p'.2=[])∧∀ (p_1:Nat×List (List UInt8)),p_1.1≤List.length book∧p_1.2.length≤p_1.1∧Hea.q0h (Hea.q04 e) e.ws w book []=Hea.q0h (Hea.q04 e)
  e.ws w (List.drop p_1.1 book) p_1.2→bif decide ((p_1.1:Int)<(↑(List.length book):Int)) then ((0:Int)≤(p_1.1:Int)∧(p_1.1:Int)<(↑(List.length book):Int))∧(∃ (p' :
  Nat×List (List UInt8)),(p'.1≤(List.getD book (p_1.1:Int).toNat Cod.noG).2.1.length∧p'.2=Hea.ownW e.ws (List.take p'.1 (List.getD book (p_1.1:Int).toNat Cod.noG).2.1))∧(0 :
  Int)=(p'.1:Int)∧p'.2=[])∧∀ (p_2:Nat×List (List UInt8)),p_2.1≤(List.getD book (p_1.1:Int).toNat Cod.noG).2.1.length∧p_2.2=Hea.ownW e.ws (List.take p_2.1 (List.getD
  book (p_1.1:Int).toNat Cod.noG).2.1)→bif decide ((p_2.1:Int)<(↑(List.getD book (p_1.1:Int).toNat Cod.noG).2.1.length:Int)) then ((0:Int)≤(p_2.1:Int)∧(p_2.1:Int) <
  (↑(List.getD book (p_1.1:Int).toNat Cod.noG).2.1.length:Int))∧((0:Int)≤(List.getD book (p_1.1:Int).toNat Cod.noG).2.1.getD (p_2.1:Int).toNat (0:Int)∧(List.getD book
  (p_1.1:Int).toNat Cod.noG).2.1.getD (p_2.1:Int).toNat (0:Int)<(e.ws.length:Int))∧(p_2.2.length+[e.ws.getD ((List.getD book (p_1.1:Int).toNat Cod.noG).2.1.getD (↑p_2.1 :
  Int).toNat (0:Int)).toNat []].length)*(16:Nat)≤(140737488355328:Nat)∧((-9223372036854775808:Int)≤(p_2.1:Int)+(1:Int)∧(p_2.1:Int)+(1:Int) ≤
  (9223372036854775807:Int))∧∃ (p':Nat×List (List UInt8)),(p'.1≤(List.getD book (p_1.1:Int).toNat Cod.noG).2.1.length∧p'.2=Hea.ownW e.ws (List.take p'.1 (List.getD book
  (p_1.1:Int).toNat Cod.noG).2.1))∧(List.getD book (p_1.1:Int).toNat Cod.noG).2.1.length-p'.1<(List.getD book (p_1.1:Int).toNat Cod.noG).2.1.length-p_2.1∧(p_2.1:Int)+(1
  : Int)=(p'.1:Int)∧p_2.2++[e.ws.getD ((List.getD book (p_1.1:Int).toNat Cod.noG).2.1.getD (p_2.1:Int).toNat (0:Int)).toNat []]=p'.2 else (p_2.2.length≤(1000000:Nat) ∧
  w.length≤(1000000:Nat))∧bif p_2.2==w then ((List.getD book (p_1.1:Int).toNat Cod.noG).1,false,(0:Int))=R else (∃ (p':Nat),(p'≤(3:Nat)∧((1:Nat)≤p'→Hea.q2q
  (Hea.q04 e) p_2.2 w=false)∧((2:Nat)≤p'→Hea.q36 p_2.2 w=false)∧((3:Nat)≤p'→Hea.q35 p_2.2 w=false))∧(0:Int)=(p':Int))∧∀ (p_3:Nat),p_3≤(3:Nat) ∧
  ((1:Nat)≤p_3→Hea.q2q (Hea.q04 e) p_2.2 w=false)∧((2:Nat)≤p_3→Hea.q36 p_2.2 w=false)∧((3:Nat)≤p_3→Hea.q35 p_2.2 w=false)→bif decide ((p_3:Int)<(↑m
  : Int)) then ((0:Int)≤(p_3:Int)∧(p_3:Int)<(m:Int))∧((p_3:Int)=(0:Int)→bif (p_2.2.length:Int) != (w.length:Int) then ((-9223372036854775808:Int)≤(↑p_3 :
  Int)+(1:Int)∧(p_3:Int)+(1:Int)≤(9223372036854775807:Int))∧∃ (p':Nat),(p'≤(3:Nat)∧((1:Nat)≤p'→Hea.q2q (Hea.q04 e) p_2.2 w=false)∧((2:Nat)≤p' →
  Hea.q36 p_2.2 w=false)∧((3:Nat)≤p'→Hea.q35 p_2.2 w=false))∧(3:Nat)-p'<(3:Nat)-p_3∧(p_3:Int)+(1:Int)=(p':Int) else (∃ (p':Nat×Nat),(p'.1 ≤
  w.length∧p'.2=(Hea.diff (List.take p'.1 p_2.2) (List.take p'.1 w)).length∧((Hea.diff (List.take p'.1 p_2.2) (List.take p'.1 w)).all fun (q:Hea.Str×Hea.Str)=>Hea.q04 e q.1 q.2)
  = true)∧(0:Int)=(p'.1:Int)∧(0:Int)=(p'.2:Int))∧∀ (p_4:Nat×Nat),p_4.1≤w.length∧p_4.2=(Hea.diff (List.take p_4.1 p_2.2) (List.take p_4.1 w)).length∧((Hea.diff
  (List.take p_4.1 p_2.2) (List.take p_4.1 w)).all fun (q:Hea.Str×Hea.Str)=>Hea.q04 e q.1 q.2)=true→bif decide ((p_4.1:Int)<(w.length:Int)) then ((0:Int)≤(↑p_4.1 :
  Int)∧(p_4.1:Int)<(w.length:Int))∧((0:Int)≤(p_4.1:Int)∧(p_4.1:Int)<(p_2.2.length:Int))∧bif !w.getD (p_4.1:Int).toNat []==p_2.2.getD (p_4.1:Int).toNat []
  then ((-9223372036854775808:Int)≤(p_4.2:Int)+(1:Int)∧(p_4.2:Int)+(1:Int)≤(9223372036854775807:Int))∧((0:Int)≤(p_4.1:Int)∧(p_4.1:Int)<(↑p_2.2.length :
  Int))∧(q0u e.c∧(p_2.2.getD (p_4.1:Int).toNat []).length≤(1000000:Nat)∧(w.getD (p_4.1:Int).toNat []).length≤(1000000:Nat))∧bif !Snd.q28 e.c (p_2.2.getD (↑p_4.1 :
  Int).toNat []) (w.getD (p_4.1:Int).toNat []) then ((-9223372036854775808:Int)≤(p_3:Int)+(1:Int)∧(p_3:Int)+(1:Int)≤(9223372036854775807:Int))∧∃ (p':Nat),(p' ≤
  (3:Nat)∧((1:Nat)≤p'→Hea.q2q (Hea.q04 e) p_2.2 w=false)∧((2:Nat)≤p'→Hea.q36 p_2.2 w=false)∧((3:Nat)≤p'→Hea.q35 p_2.2 w=false))∧(3:Nat)-p'<(3 :
  Nat)-p_3∧(p_3:Int)+(1:Int)=(p':Int) else ((-9223372036854775808:Int)≤(p_4.1:Int)+(1:Int)∧(p_4.1:Int)+(1:Int)≤(9223372036854775807:Int))∧∃ (p':Nat
  × Nat),(p'.1≤w.length∧p'.2=(Hea.diff (List.take p'.1 p_2.2) (List.take p'.1 w)).length∧((Hea.diff (List.take p'.1 p_2.2) (List.take p'.1 w)).all fun (q:Hea.Str×Hea.Str) =>
  Hea.q04 e q.1 q.2)=true)∧w.length-p'.1<w.length-p_4.1∧(p_4.1:Int)+(1:Int)=(p'.1:Int)∧(p_4.2:Int)+(1:Int)=(p'.2:Int) else ((-9223372036854775808 :
  Int)≤(p_4.1:Int)+(1:Int)∧(p_4.1:Int)+(1:Int)≤(9223372036854775807:Int))∧∃ (p':Nat×Nat),(p'.1≤w.length∧p'.2=(Hea.diff (List.take p'.1 p_2.2) (List.take p'.1
  w)).length∧((Hea.diff (List.take p'.1 p_2.2) (List.take p'.1 w)).all fun (q:Hea.Str×Hea.Str)=>Hea.q04 e q.1 q.2)=true)∧w.length-p'.1<w.length-p_4.1∧(p_4.1:Int)+(1
  : Int)=(p'.1:Int)∧(p_4.2:Int)=(p'.2:Int) else bif (p_4.2:Int)==(1:Int) then (p_1.2.length+[(List.getD book (p_1.1:Int).toNat Cod.noG).1].length)*(16:Nat) ≤
  (140737488355328:Nat)∧((-9223372036854775808:Int)≤(p_1.1:Int)+(1:Int)∧(p_1.1:Int)+(1:Int)≤(9223372036854775807:Int))∧∃ (p':Nat×List (List UInt8)),(p'.1 ≤
  List.length book∧p'.2.length≤p'.1∧Hea.q0h (Hea.q04 e) e.ws w book []=Hea.q0h (Hea.q04 e) e.ws w (List.drop p'.1 book) p'.2)∧List.length book-p'.1<List.length book -
  p_1.1∧(p_1.1:Int)+(1:Int)=(p'.1:Int)∧p_1.2++[(List.getD book (p_1.1:Int).toNat Cod.noG).1]=p'.2 else ((-9223372036854775808:Int)≤(p_3:Int)+(1:Int)∧(↑p_3 :
  Int)+(1:Int)≤(9223372036854775807:Int))∧∃ (p':Nat),(p'≤(3:Nat)∧((1:Nat)≤p'→Hea.q2q (Hea.q04 e) p_2.2 w=false)∧((2:Nat)≤p'→Hea.q36 p_2.2 w=false) ∧
  ((3:Nat)≤p'→Hea.q35 p_2.2 w=false))∧(3:Nat)-p'<(3:Nat)-p_3∧(p_3:Int)+(1:Int)=(p':Int))∧((p_3:Int)=(1:Int)→(∃ (p':Nat),(p'≤p_2.2.length∧∀
  (i:Nat),i<p'→(p_2.2.eraseIdx i==w)=false)∧(0:Int)=(p':Int))∧∀ (p_4:Nat),(p_4≤p_2.2.length∧∀ (i:Nat),i<p_4→(p_2.2.eraseIdx i==w)=false)→bif decide
  ((p_4:Int)<(p_2.2.length:Int)) then ((-9223372036854775808:Int)≤(p_4:Int)+(1:Int)∧(p_4:Int)+(1:Int)≤(9223372036854775807:Int))∧(p_2.2.length≤(1000000 :
  Nat)∧(((0:Int)≤(p_4:Int)∧(p_4:Int)<(p_2.2.length:Int))∧((p_2.2.eraseIdx (p_4:Int).toNat).length≤(1000000:Nat)∧w.length≤(1000000:Nat))∧bif p_2.2.eraseIdx
  (p_4:Int).toNat==w then (p_1.2.length+[(List.getD book (p_1.1:Int).toNat Cod.noG).1].length)*(16:Nat)≤(140737488355328:Nat)∧((-9223372036854775808:Int)≤(p_1.1:Int)
  + (1:Int)∧(p_1.1:Int)+(1:Int)≤(9223372036854775807:Int))∧∃ (p':Nat×List (List UInt8)),(p'.1≤List.length book∧p'.2.length≤p'.1∧Hea.q0h (Hea.q04 e) e.ws w
  book []=Hea.q0h (Hea.q04 e) e.ws w (List.drop p'.1 book) p'.2)∧List.length book-p'.1<List.length book-p_1.1∧(p_1.1:Int)+(1:Int)=(p'.1:Int)∧p_1.2++[(List.getD
  book (p_1.1:Int).toNat Cod.noG).1]=p'.2 else ((-9223372036854775808:Int)≤(p_4:Int)+(1:Int)∧(p_4:Int)+(1:Int)≤(9223372036854775807:Int))∧∃ (p':Nat),(p' ≤
  p_2.2.length∧∀ (i:Nat),i<p'→(p_2.2.eraseIdx i==w)=false)∧p_2.2.length-p'<p_2.2.length-p_4∧(p_4:Int)+(1:Int)=(p':Int))∧((0:Int)≤(p_4:Int)∧(↑p_4 :
  Int)<(p_2.2.length:Int))∧((p_2.2.eraseIdx (p_4:Int).toNat).length≤(1000000:Nat)∧w.length≤(1000000:Nat))∧bif p_2.2.eraseIdx (p_4:Int).toNat==w then (p_1.2.length +
  [(List.getD book (p_1.1:Int).toNat Cod.noG).1].length)*(16:Nat)≤(140737488355328:Nat)∧((-9223372036854775808:Int)≤(p_1.1:Int)+(1:Int)∧(p_1.1:Int)+(1:Int) ≤
  (9223372036854775807:Int))∧∃ (p':Nat×List (List UInt8)),(p'.1≤List.length book∧p'.2.length≤p'.1∧Hea.q0h (Hea.q04 e) e.ws w book []=Hea.q0h (Hea.q04 e) e.ws w
  (List.drop p'.1 book) p'.2)∧List.length book-p'.1<List.length book-p_1.1∧(p_1.1:Int)+(1:Int)=(p'.1:Int)∧p_1.2++[(List.getD book (p_1.1:Int).toNat Cod.noG).1] =
  p'.2 else ((-9223372036854775808:Int)≤(p_4:Int)+(1:Int)∧(p_4:Int)+(1:Int)≤(9223372036854775807:Int))∧∃ (p':Nat),(p'≤p_2.2.length∧∀ (i:Nat),i<p' →
  (p_2.2.eraseIdx i==w)=false)∧p_2.2.length-p'<p_2.2.length-p_4∧(p_4:Int)+(1:Int)=(p':Int))∧p_2.2.length≤(1000000:Nat)∧((0:Int)≤(p_4:Int)∧(↑p_4 :
  Int)<(p_2.2.length:Int))∧((p_2.2.eraseIdx (p_4:Int).toNat).length≤(1000000:Nat)∧w.length≤(1000000:Nat))∧bif p_2.2.eraseIdx (p_4:Int).toNat==w then (p_1.2.length +
  [(List.getD book (p_1.1:Int).toNat Cod.noG).1].length)*(16:Nat)≤(140737488355328:Nat)∧((-9223372036854775808:Int)≤(p_1.1:Int)+(1:Int)∧(p_1.1:Int)+(1:Int) ≤
  (9223372036854775807:Int))∧∃ (p':Nat×List (List UInt8)),(p'.1≤List.length book∧p'.2.length≤p'.1∧Hea.q0h (Hea.q04 e) e.ws w book []=Hea.q0h (Hea.q04 e) e.ws w
  (List.drop p'.1 book) p'.2)∧List.length book-p'.1<List.length book-p_1.1∧(p_1.1:Int)+(1:Int)=(p'.1:Int)∧p_1.2++[(List.getD book (p_1.1:Int).toNat Cod.noG).1] =
  p'.2 else ((-9223372036854775808:Int)≤(p_4:Int)+(1:Int)∧(p_4:Int)+(1:Int)≤(9223372036854775807:Int))∧∃ (p':Nat),(p'≤p_2.2.length∧∀ (i:Nat),i<p' →
  (p_2.2.eraseIdx i==w)=false)∧p_2.2.length-p'<p_2.2.length-p_4∧(p_4:Int)+(1:Int)=(p':Int) else ((-9223372036854775808:Int)≤(p_3:Int)+(1:Int)∧(↑p_3 :
  Int)+(1:Int)≤(9223372036854775807:Int))∧∃ (p':Nat),(p'≤(3:Nat)∧((1:Nat)≤p'→Hea.q2q (Hea.q04 e) p_2.2 w=false)∧((2:Nat)≤p'→Hea.q36 p_2.2 w=false) ∧
  ((3:Nat)≤p'→Hea.q35 p_2.2 w=false))∧(3:Nat)-p'<(3:Nat)-p_3∧(p_3:Int)+(1:Int)=(p':Int))∧((p_3:Int)=(2:Int)→((-9223372036854775808:Int) ≤
  (p_2.2.length:Int)-(1:Int)∧(p_2.2.length:Int)-(1:Int)≤(9223372036854775807:Int))∧(∃ (p':Nat),(p'≤p_2.2.length-(1:Nat)∧∀ (i:Nat),i<p'→(Hea.q19 p_2.2
  i==w&&p_2.2.getD i [] != p_2.2.getD (i+(1:Nat)) [])=false)∧(0:Int)=(p':Int))∧∀ (p_4:Nat),(p_4≤p_2.2.length-(1:Nat)∧∀ (i:Nat),i<p_4→(Hea.q19 p_2.2 i
  == w&&p_2.2.getD i [] != p_2.2.getD (i+(1:Nat)) [])=false)→bif decide ((p_4:Int)<(p_2.2.length:Int)-(1:Int)) then p_2.2.length≤(1000000:Nat) ∧
  (((-9223372036854775808:Int)≤(p_4:Int)+(1:Int)∧(p_4:Int)+(1:Int)≤(9223372036854775807:Int))∧((0:Int)≤(p_4:Int)+(1:Int)∧(p_4:Int)+(1:Int) <
  (p_2.2.length:Int))∧((0:Int)≤(p_4:Int)∧(p_4:Int)<(p_2.2.length:Int))∧((0:Int)≤(p_4:Int)∧(p_4:Int)<(p_2.2.length:Int))∧((-9223372036854775808:Int)
  ≤ (p_4:Int)+(1:Int)∧(p_4:Int)+(1:Int)≤(9223372036854775807:Int))∧bif (p_4:Int).toNat.beq (p_4:Int).toNat then ((0:Int)≤(p_4:Int)+(1:Int)∧(p_4:Int)
  + (1:Int)<(↑(p_2.2.set (p_4:Int).toNat (p_2.2.getD ((p_4:Int)+(1:Int)).toNat [])).length:Int))∧bif ((p_4:Int)+(1:Int)).toNat.beq ((p_4:Int)+(1:Int)).toNat
  then ∃ (p':Unit),(p_2.2.set (p_4:Int).toNat (p_2.2.getD ((p_4:Int)+(1:Int)).toNat [])).set ((p_4:Int)+(1:Int)).toNat (p_2.2.getD (p_4:Int).toNat [])=Hea.q19 p_2.2
  (p_4:Int).toNat else False else False)∧∀ (p_5:Unit),True→((Hea.q19 p_2.2 (p_4:Int).toNat).length≤(1000000:Nat)∧w.length≤(1000000:Nat))∧bif Hea.q19 p_2.2 (↑p_4 :
  Int).toNat==w then ((0:Int)≤(p_4:Int)∧(p_4:Int)<(p_2.2.length:Int))∧((-9223372036854775808:Int)≤(p_4:Int)+(1:Int)∧(p_4:Int)+(1:Int) ≤
  (9223372036854775807:Int))∧((0:Int)≤(p_4:Int)+(1:Int)∧(p_4:Int)+(1:Int)<(p_2.2.length:Int))∧bif !p_2.2.getD (p_4:Int).toNat []==p_2.2.getD ((p_4:Int) +
  (1:Int)).toNat [] then (p_1.2.length+[(List.getD book (p_1.1:Int).toNat Cod.noG).1].length)*(16:Nat)≤(140737488355328:Nat)∧((-9223372036854775808:Int)≤(p_1.1:Int) +
  (1:Int)∧(p_1.1:Int)+(1:Int)≤(9223372036854775807:Int))∧∃ (p':Nat×List (List UInt8)),(p'.1≤List.length book∧p'.2.length≤p'.1∧Hea.q0h (Hea.q04 e) e.ws w book
  []=Hea.q0h (Hea.q04 e) e.ws w (List.drop p'.1 book) p'.2)∧List.length book-p'.1<List.length book-p_1.1∧(p_1.1:Int)+(1:Int)=(p'.1:Int)∧p_1.2++[(List.getD book
  (p_1.1:Int).toNat Cod.noG).1]=p'.2 else ((-9223372036854775808:Int)≤(p_4:Int)+(1:Int)∧(p_4:Int)+(1:Int)≤(9223372036854775807:Int))∧∃ (p':Nat),(p' ≤
  p_2.2.length-(1:Nat)∧∀ (i:Nat),i<p'→(Hea.q19 p_2.2 i==w&&p_2.2.getD i [] != p_2.2.getD (i+(1:Nat)) [])=false)∧p_2.2.length-(1:Nat)-p'<p_2.2.length-(1 :
  Nat)-p_4∧(p_4:Int)+(1:Int)=(p':Int) else ((-9223372036854775808:Int)≤(p_4:Int)+(1:Int)∧(p_4:Int)+(1:Int)≤(9223372036854775807:Int))∧∃ (p':Nat),
  (p'≤p_2.2.length-(1:Nat)∧∀ (i:Nat),i<p'→(Hea.q19 p_2.2 i==w&&p_2.2.getD i [] != p_2.2.getD (i+(1:Nat)) [])=false)∧p_2.2.length-(1:Nat)-p'<p_2.2.length -
  (1:Nat)-p_4∧(p_4:Int)+(1:Int)=(p':Int) else ((-9223372036854775808:Int)≤(p_3:Int)+(1:Int)∧(p_3:Int)+(1:Int)≤(9223372036854775807:Int))∧∃ (p' :
  Nat),(p'≤(3:Nat)∧((1:Nat)≤p'→Hea.q2q (Hea.q04 e) p_2.2 w=false)∧((2:Nat)≤p'→Hea.q36 p_2.2 w=false)∧((3:Nat)≤p'→Hea.q35 p_2.2 w=false))∧(3:Nat)
  - p'<(3:Nat)-p_3∧(p_3:Int)+(1:Int)=(p':Int)) else ((-9223372036854775808:Int)≤(p_1.1:Int)+(1:Int)∧(p_1.1:Int)+(1:Int)≤(9223372036854775807:Int)) ∧
  ∃ (p':Nat×List (List UInt8)),(p'.1≤List.length book∧p'.2.length≤p'.1∧Hea.q0h (Hea.q04 e) e.ws w book []=Hea.q0h (Hea.q04 e) e.ws w (List.drop p'.1 book) p'.2) ∧
  List.length book-p'.1<List.length book-p_1.1∧(p_1.1:Int)+(1:Int)=(p'.1:Int)∧p_1.2=p'.2 else bif (p_1.2.length:Int)==(0:Int) then ([],false,(10:Int))=R
  else bif (p_1.2.length:Int)==(1:Int) then ((0:Int)≤(0:Int)∧(0:Int)<(p_1.2.length:Int))∧(p_1.2.getD 0 [],true,(0:Int))=R else ([],false,(8:Int))=R:=by
 subst hm
 refine ⟨⟨(0,[]),⟨Nat.zero_le _,Nat.le_refl _,rfl⟩,rfl,rfl⟩,?_⟩
 rintro ⟨i,doors⟩ ⟨hi,hd,hf⟩
 have hi:i≤book.length:=hi
 have hd:doors.length≤i:=hd
 have hf:Hea.q0h (Hea.q04 e) e.ws w book []=Hea.q0h (Hea.q04 e) e.ws w (book.drop i) doors:=hf
 have hti:((i:Int).toNat)=i:=rfl
 dsimp only
 simp only [hti]
 refine bifP (fun hb=>?_) fun hb=>?_
 ·have hlt:i<book.length:=by have:=of_decide_eq_true hb; omega
  have hmem:=Snd.q1r book Cod.noG i hlt
  have hdrop:book.drop i=book.getD i Cod.noG::book.drop (i+1):=by
   rw [List.drop_eq_getElem_cons hlt,List.getD_eq_getElem?_getD,List.getElem?_eq_getElem hlt]; rfl
  generalize book.getD i Cod.noG=g at hmem hdrop ⊢
  obtain ⟨hok,hgc⟩:=Hea.qgz hp hmem
  obtain ⟨hv,hlen,hin⟩:=Cod.code_out hgc
  have hnext:∀ ds:List (List UInt8),ds.length≤i+1→Hea.q0h (Hea.q04 e) e.ws w (book.drop i) doors=Hea.q0h (Hea.q04 e) e.ws w (book.drop (i+1)) ds →
    ((-9223372036854775808:Int)≤(i:Int)+(1:Int)∧(i:Int)+(1:Int)≤(9223372036854775807:Int))∧∃ (p':Nat×List (List UInt8)),(p'.1≤List.length book∧p'.2.length≤p'.1∧Hea.q0h (Hea.q04 e) e.ws w book []=Hea.q0h (Hea.q04 e) e.ws w (List.drop p'.1 book) p'.2)∧List.length book-p'.1<List.length book-i∧(i:Int)+(1:Int)=(p'.1:Int)∧ds=p'.2:=fun ds h1 h2 =>
   ⟨⟨by omega,by omega⟩,(i+1,ds),⟨hlt,h1,hf.trans h2⟩,by show book.length-(i+1)<book.length-i; omega,by push_cast; rfl,rfl⟩
  refine ⟨⟨by omega,by omega⟩,⟨(0,[]),⟨Nat.zero_le _,rfl⟩,rfl,rfl⟩,?_⟩
  rintro ⟨k,own⟩ ⟨hk,ho⟩
  have hk:k≤g.2.1.length:=hk
  obtain rfl:own=Hea.ownW e.ws (g.2.1.take k):=ho
  have htk:((k:Int).toNat)=k:=rfl
  dsimp only
  simp only [htk]
  refine bifP (fun hb=>?_) fun hb=>?_
  ·have hkl:k<g.2.1.length:=by have:=of_decide_eq_true hb; omega
   obtain ⟨q0,q1⟩:=Cod.in_getD hin hkl
   have hol:(Hea.ownW e.ws (g.2.1.take k)).length≤5:=by rw [Hea.own_len,List.length_take]; omega
   refine ⟨⟨by omega,by omega⟩,⟨q0,q1⟩,by rw [List.length_singleton]; omega,⟨by omega,by omega⟩,(k+1,_),⟨hkl,rfl⟩,by show g.2.1.length-(k+1)<g.2.1.length-k; omega,by push_cast; rfl,ownH_snoc _ _ _ hkl⟩
  ·have hkl:g.2.1.length≤k:=by have:=of_decide_eq_false hb; omega
   rw [List.take_of_length_le hkl]
   have hol:(Hea.ownW e.ws g.2.1).length≤5:=by rw [Hea.own_len]; omega
   have hos:=ownH_long e.ws hW g.2.1
   generalize hown:Hea.ownW e.ws g.2.1=own at hol hos ⊢
   refine ⟨⟨by omega,by omega⟩,bifP (fun hb=>?_) fun hne=>?_⟩
   ·rw [hR,hf,hdrop,Hea.q0h,hown,if_pos hb]
   have hyes:Hea.qa7 (Hea.q04 e) own w=true→(doors.length+[g.1].length)*(16:Nat)≤(140737488355328:Nat)∧((-9223372036854775808:Int)≤(i:Int)+(1:Int)∧(i:Int)+(1:Int)≤(9223372036854775807:Int))∧∃ (p':Nat×List (List UInt8)),(p'.1≤List.length book∧p'.2.length≤p'.1∧Hea.q0h (Hea.q04 e) e.ws w book []=Hea.q0h (Hea.q04 e) e.ws w (List.drop p'.1 book) p'.2)∧List.length book-p'.1<List.length book-i∧(i:Int)+(1:Int)=(p'.1:Int)∧doors++[g.1]=p'.2:=fun h=>by
    refine ⟨by rw [List.length_singleton]; omega,hnext (doors++[g.1]) (by rw [List.length_append,List.length_singleton]; omega) ?_⟩
    rw [hdrop,Hea.q0h,hown,if_neg (by rw [hne]; decide),h,if_pos rfl]
   refine ⟨⟨0,⟨Nat.zero_le _,fun h=>absurd h (by omega),fun h=>absurd h (by omega),fun h=>absurd h (by omega)⟩,rfl⟩,?_⟩
   rintro j ⟨hj,h1,h2,h3⟩
   refine bifP (fun hb=>?_) fun hb=>?_
   ·have hj3:j<3:=by have:=of_decide_eq_true hb; omega
    refine ⟨⟨by omega,by omega⟩,fun hj0=>?_,fun hj0=>?_,fun hj0=>?_⟩
    ·obtain rfl:j=0:=by omega
     refine Hea.repl_part e own w hC hos hwl (by omega) (fun h=>hyes (by unfold Hea.qa7; rw [h]; rfl)) fun h=>⟨⟨by omega,by omega⟩,1,⟨by omega,fun _=>h,fun h'=>absurd h' (by omega),fun h'=>absurd h' (by omega)⟩,by omega,rfl⟩
    ·obtain rfl:j=1:=by omega
     refine Hea.miss_part own w (by omega) (by omega) (fun h=>hyes (by unfold Hea.qa7; rw [h,Bool.true_or,Bool.or_true])) fun h=>⟨⟨by omega,by omega⟩,2,⟨by omega,fun _=>h1 (by omega),fun _=>h,fun h'=>absurd h' (by omega)⟩,by omega,rfl⟩
    ·obtain rfl:j=2:=by omega
     refine Hea.exch_part own w (by omega) (by omega) (fun h=>hyes (by unfold Hea.qa7; rw [h,Bool.or_true,Bool.or_true])) fun h=>⟨⟨by omega,by omega⟩,3,⟨by omega,fun _=>h1 (by omega),fun _=>h2 (by omega),fun _=>h⟩,by omega,rfl⟩
   ·have hj3:3≤j:=by have:=of_decide_eq_false hb; omega
    refine hnext doors (by omega) ?_
    have hno:Hea.qa7 (Hea.q04 e) own w=false:=by
     unfold Hea.qa7
     rw [h1 (by omega),h2 (by omega),h3 (by omega)]; rfl
    rw [hdrop,Hea.q0h,hown,if_neg (by rw [hne]; decide),hno,if_neg (by decide)]
 ·have hle:book.length≤i:=by have:=of_decide_eq_false hb; omega
  rw [List.drop_eq_nil_of_le hle] at hf
  rw [hR,hf]
  refine bifP (fun hb=>?_) fun h0=>bifP (fun hb=>?_) fun h1=>?_
  ·have:=eq_of_beq hb
   obtain rfl:doors=[]:=List.eq_nil_of_length_eq_zero (by omega)
   rfl
  ·have:=eq_of_beq hb
   obtain ⟨d,rfl⟩:=List.length_eq_one_iff.1 (show doors.length=1 by omega)
   exact ⟨⟨by omega,by rw [List.length_singleton]; omega⟩,rfl⟩
  ·match doors with
   | []=>exact absurd rfl (beq_eq_false_iff_ne.1 h0)
   | [d]=>exact absurd rfl (beq_eq_false_iff_ne.1 h1)
   | _::_::_=>rfl
end Go.Proofs.YtfecgebhoondjaaGreatDoor
set_option linter.unusedVariables false
namespace Go.Proofs.YtfecgebhoondjaaGreatDoor
open Go.RowKit
open R
abbrev q2c (book:q0f) (e:Cod.Ear) (p_1:Nat×List (List UInt8)):Prop :=
 ((True∧True∧True)∧(e.c=e.c∧True)∧(e.lang=e.lang∧e.ws=e.ws∧True)∧((List.getD book (p_1.1:Int).toNat Cod.noG).1=(List.getD book (p_1.1:Int).toNat Cod.noG).1∧(List.getD book (p_1.1:Int).toNat Cod.noG).2.1=(List.getD book (p_1.1:Int).toNat Cod.noG).2.1∧(List.getD book (p_1.1:Int).toNat Cod.noG).2.2.1=(List.getD book (p_1.1:Int).toNat Cod.noG).2.2.1∧(List.getD book (p_1.1:Int).toNat Cod.noG).2.2.2.1=(List.getD book (p_1.1:Int).toNat Cod.noG).2.2.2.1∧(List.getD book (p_1.1:Int).toNat Cod.noG).2.2.2.2=(List.getD book (p_1.1:Int).toNat Cod.noG).2.2.2.2∧True)∧(True∧True)∧True)
abbrev q40 (book:q0f) (p_1:Nat×List (List UInt8)) (p_3:Nat):Prop :=
 (True∧True∧(p_3:Int)=(p_3:Int)∧(↑[((102:Nat),[(nat_lit 22011,nat_lit 0)].length,[(nat_lit 22011,nat_lit 0)]++[]),((103:Nat),[(nat_lit 22011,nat_lit 0)].length,[(nat_lit 22011,nat_lit 0)]++[]),((104:Nat),[(nat_lit 22011,nat_lit 0)].length,[(nat_lit 22011,nat_lit 0)]++[])].length:Int)=(↑[((102:Nat),[(nat_lit 22011,nat_lit 0)].length,[(nat_lit 22011,nat_lit 0)]++[]),((103:Nat),[(nat_lit 22011,nat_lit 0)].length,[(nat_lit 22011,nat_lit 0)]++[]),((104:Nat),[(nat_lit 22011,nat_lit 0)].length,[(nat_lit 22011,nat_lit 0)]++[])].length:Int)∧(p_3:Int)=(p_3:Int)∧True∧True∧True∧True∧True∧book=book∧(↑(List.length book):Int)=(↑(List.length book):Int)∧(p_1.1:Int)=(p_1.1:Int)∧True)
abbrev qaf (p':Nat) (p_3:Nat):Prop :=
 ((p_3:Int)+1=(p':Int)∧True∧True∧(↑[((102:Nat),[(nat_lit 22011,nat_lit 0)].length,[(nat_lit 22011,nat_lit 0)]++[]),((103:Nat),[(nat_lit 22011,nat_lit 0)].length,[(nat_lit 22011,nat_lit 0)]++[]),((104:Nat),[(nat_lit 22011,nat_lit 0)].length,[(nat_lit 22011,nat_lit 0)]++[])].length:Int)=(↑[((102:Nat),[(nat_lit 22011,nat_lit 0)].length,[(nat_lit 22011,nat_lit 0)]++[]),((103:Nat),[(nat_lit 22011,nat_lit 0)].length,[(nat_lit 22011,nat_lit 0)]++[]),((104:Nat),[(nat_lit 22011,nat_lit 0)].length,[(nat_lit 22011,nat_lit 0)]++[])].length:Int)∧True)
abbrev q8m (e:Cod.Ear) (p:Bool×List UInt8×List (List UInt8)) (p':Nat) (p_2:Nat×List (List UInt8)):Prop :=
 (p'≤(3:Nat)∧((1:Nat)≤p'→Hea.q2q (Hea.q04 e) p_2.2 p.2.2=false)∧((2:Nat)≤p'→Hea.q36 p_2.2 p.2.2=false)∧((3:Nat)≤p'→Hea.q35 p_2.2 p.2.2=false))
abbrev q7b (book:q0f) (e:Cod.Ear) (p:Bool×List UInt8×List (List UInt8)) (p':Nat×List (List UInt8)):Prop :=
 (p'.1≤List.length book∧p'.2.length≤p'.1∧Hea.q0h (Hea.q04 e) e.ws p.2.2 book []=Hea.q0h (Hea.q04 e) e.ws p.2.2 (List.drop p'.1 book) p'.2)
abbrev zHeJ0_5 (book:q0f) (e:Cod.Ear) (p:Bool×List UInt8×List (List UInt8)) (text:List UInt8):Prop :=
 ((p.2.2.length+[(cutF p.2.1).1].length)*(16:Nat)≤(140737488355328:Nat)∧∃ (p':Bool×List UInt8×List (List UInt8)),q3x text p'.1 p'.2.1 p'.2.2∧((if p'.1=true then p'.2.1.length+(1:Nat) else (0:Nat))<if p.1=true then p.2.1.length+(1:Nat) else (0:Nat))∧((cutF p.2.1).2.2=p'.1∧True∧True∧True)∧(((cutF p.2.1).2.1=p'.2.1∧True)∧(True∧True∧True)∧(e.c=e.c∧True)∧(True∧True)∧(false=false∧True)∧(True∧True)∧(e.lang=e.lang∧e.ws=e.ws∧True)∧True)∧(p.2.2++[(cutF p.2.1).1]=p'.2.2∧True)∧True∧True∧(True∧True∧True∧book=book∧True∧True)∧True∧True∧True∧True∧(True∧True∧True∧True)∧True)
abbrev q8s (book:q0f) (p_1:Nat×List (List UInt8)):Prop :=
 (True∧True∧True∧True∧True∧book=book∧(↑(List.length book):Int)=(↑(List.length book):Int)∧(p_1.1:Int)=(p_1.1:Int)∧True)
abbrev q8o (book:q0f) (p':Nat×List (List UInt8)) (p_1:Nat×List (List UInt8)):Prop :=
 ((p_1.1:Int)+1=(p'.1:Int)∧True∧(↑(List.length book):Int)=(↑(List.length book):Int)∧True∧True∧True∧book=book∧True)
abbrev zHeJ0_8 (book:q0f) (e:Cod.Ear) (p_1:Nat×List (List UInt8)):Prop :=
 ((True∧True)∧(True∧True∧True)∧(e.c=e.c∧True)∧(e.lang=e.lang∧e.ws=e.ws∧True)∧((List.getD book (p_1.1:Int).toNat Cod.noG).1=(List.getD book (p_1.1:Int).toNat Cod.noG).1∧(List.getD book (p_1.1:Int).toNat Cod.noG).2.1=(List.getD book (p_1.1:Int).toNat Cod.noG).2.1∧(List.getD book (p_1.1:Int).toNat Cod.noG).2.2.1=(List.getD book (p_1.1:Int).toNat Cod.noG).2.2.1∧(List.getD book (p_1.1:Int).toNat Cod.noG).2.2.2.1=(List.getD book (p_1.1:Int).toNat Cod.noG).2.2.2.1∧(List.getD book (p_1.1:Int).toNat Cod.noG).2.2.2.2=(List.getD book (p_1.1:Int).toNat Cod.noG).2.2.2.2∧True)∧True)
abbrev q79 (e:Cod.Ear):Prop :=
 ((True∧True∧True)∧(e.c=e.c∧True)∧(e.lang=e.lang∧e.ws=e.ws∧True)∧True)
abbrev q1x (p:Bool×List UInt8×List (List UInt8)) (p_1:Nat×List (List UInt8)) (p_2:Nat×List (List UInt8)):Prop :=
 (p.2.2=p.2.2∧p_1.2=p_1.2∧p_2.2=p_2.2∧True)
abbrev qd5 (e:Cod.Ear) (p:Bool×List UInt8×List (List UInt8)) (p':Nat×Nat) (p_2:Nat×List (List UInt8)):Prop :=
 (p'.1≤p.2.2.length∧p'.2=(Hea.diff (List.take p'.1 p_2.2) (List.take p'.1 p.2.2)).length∧((Hea.diff (List.take p'.1 p_2.2) (List.take p'.1 p.2.2)).all fun (q:Hea.Str×Hea.Str)=>Hea.q04 e q.1 q.2)=true)
abbrev qde (p_2:Nat×List (List UInt8)) (p_4:Nat):Prop :=
 ((p_4:Int)+1=(p_4:Int)+1∧0≤(p_4:Int)∧(p_4:Int)<(p_2.2.length:Int))
set_option maxRecDepth 100000 in
theorem hear_vc (e:Cod.Ear) (book:q0f) (text:List UInt8) (h:cHear.pre ((e.lang,e.ws),e.c,book,text)) :
  (q13 (e.lang,e.ws)∧q0u e.c∧q4p book)∧bif !e.proper book then ([],false,(1:Int))=Hea.q09 e book text else (∃ (p':Bool×List UInt8×List (List UInt8)),q3x text p'.1 p'.2.1 p'.2.2∧(true=p'.1∧True∧True∧True)∧((text=p'.2.1∧True)∧(True∧True∧True)∧(e.c=e.c∧True)∧(True∧True)∧(false=false∧True)∧(True∧True)∧(e.lang=e.lang∧e.ws=e.ws∧True)∧True)∧(p'.2.2=[]∧True)∧True∧True∧(True∧True∧True∧book=book∧True∧True)∧True∧True∧True∧True∧(True∧True∧True∧True)∧True)∧∀ (p:Bool×List UInt8×List (List UInt8)),q3x text p.1 p.2.1 p.2.2→bif p.1 then (p.2.1.length≤(1000000:Nat)∧[(32:UInt8)]=[(32:UInt8)])∧(cutF p.2.1).1.length≤(1000000:Nat)∧bif (cutF p.2.1).1.any fun (c:UInt8)=>!Snd.letB c then ([],false,(5:Int))=Hea.q09 e book text else bif (cutF p.2.1).1==[] then ([],false,(5:Int))=Hea.q09 e book text else bif decide ((12:Int)<(↑(cutF p.2.1).1.length:Int)) then ([],false,(5:Int))=Hea.q09 e book text else bif (p.2.2.length:Int)==(5:Int) then ([],false,(5:Int))=Hea.q09 e book text else (zHeJ0_5 book e p text)∧(zHeJ0_5 book e p text)∧(p.2.2.length+[(cutF p.2.1).1].length)*(16:Nat)≤(140737488355328:Nat)∧∃ (p':Bool×List UInt8×List (List UInt8)),q3x text p'.1 p'.2.1 p'.2.2∧((if p'.1=true then p'.2.1.length+(1:Nat) else (0:Nat))<if p.1=true then p.2.1.length+(1:Nat) else (0:Nat))∧((cutF p.2.1).2.2=p'.1∧True∧True∧True)∧(((cutF p.2.1).2.1=p'.2.1∧True)∧(True∧True∧True)∧(e.c=e.c∧True)∧(True∧True)∧(false=false∧True)∧(True∧True)∧(e.lang=e.lang∧e.ws=e.ws∧True)∧True)∧(p.2.2++[(cutF p.2.1).1]=p'.2.2∧True)∧True∧True∧(True∧True∧True∧book=book∧True∧True)∧True∧True∧True∧True∧(True∧True∧True∧True)∧True else (∃ (p':Nat×List (List UInt8)),(q7b book e p p')∧((0:Int)=(p'.1:Int)∧True∧(↑(List.length book):Int)=(↑(List.length book):Int)∧True∧True∧True∧book=book∧True)∧(q79 e)∧(p.2.2=p.2.2∧p'.2=[]∧True)∧True∧True∧True∧True∧True∧True∧True)∧∀ (p_1:Nat×List (List UInt8)),p_1.1≤List.length book∧p_1.2.length≤p_1.1∧Hea.q0h (Hea.q04 e) e.ws p.2.2 book []=Hea.q0h (Hea.q04 e) e.ws p.2.2 (List.drop p_1.1 book) p_1.2→bif decide ((p_1.1:Int)<(↑(List.length book):Int)) then (0≤(p_1.1:Int)∧(p_1.1:Int)<(↑(List.length book):Int))∧(∃ (p':Nat×List (List UInt8)),(p'.1≤(List.getD book (p_1.1:Int).toNat Cod.noG).2.1.length∧p'.2=Hea.ownW e.ws (List.take p'.1 (List.getD book (p_1.1:Int).toNat Cod.noG).2.1))∧((0:Int)=(p'.1:Int)∧True∧True∧True∧True∧True∧True∧book=book∧(↑(List.length book):Int)=(↑(List.length book):Int)∧(p_1.1:Int)=(p_1.1:Int)∧(List.getD book (p_1.1:Int).toNat Cod.noG).2.1=(List.getD book (p_1.1:Int).toNat Cod.noG).2.1∧(↑(List.getD book (p_1.1:Int).toNat Cod.noG).2.1.length:Int)=(↑(List.getD book (p_1.1:Int).toNat Cod.noG).2.1.length:Int)∧True)∧(zHeJ0_8 book e p_1)∧(p'.2=[]∧p.2.2=p.2.2∧p_1.2=p_1.2∧True)∧True∧True∧True∧True∧True∧True∧True)∧∀ (p_2:Nat×List (List UInt8)),p_2.1≤(List.getD book (p_1.1:Int).toNat Cod.noG).2.1.length∧p_2.2=Hea.ownW e.ws (List.take p_2.1 (List.getD book (p_1.1:Int).toNat Cod.noG).2.1)→bif decide ((p_2.1:Int)<(↑(List.getD book (p_1.1:Int).toNat Cod.noG).2.1.length:Int)) then (0≤(p_2.1:Int)∧(p_2.1:Int)<(↑(List.getD book (p_1.1:Int).toNat Cod.noG).2.1.length:Int))∧((0:Int)≤(List.getD book (p_1.1:Int).toNat Cod.noG).2.1.getD (p_2.1:Int).toNat (0:Int)∧(List.getD book (p_1.1:Int).toNat Cod.noG).2.1.getD (p_2.1:Int).toNat 0<(e.ws.length:Int))∧(p_2.2.length+[e.ws.getD ((List.getD book (p_1.1:Int).toNat Cod.noG).2.1.getD (p_2.1:Int).toNat (0:Int)).toNat []].length)*(16:Nat)≤(140737488355328:Nat)∧(zFit ((p_2.1:Int)+1))∧∃ (p':Nat×List (List UInt8)),(p'.1≤(List.getD book (p_1.1:Int).toNat Cod.noG).2.1.length∧p'.2=Hea.ownW e.ws (List.take p'.1 (List.getD book (p_1.1:Int).toNat Cod.noG).2.1))∧(List.getD book (p_1.1:Int).toNat Cod.noG).2.1.length-p'.1<(List.getD book (p_1.1:Int).toNat Cod.noG).2.1.length-p_2.1∧((p_2.1:Int)+1=(p'.1:Int)∧True∧True∧True∧True∧True∧True∧book=book∧(↑(List.length book):Int)=(↑(List.length book):Int)∧(p_1.1:Int)=(p_1.1:Int)∧(List.getD book (p_1.1:Int).toNat Cod.noG).2.1=(List.getD book (p_1.1:Int).toNat Cod.noG).2.1∧(↑(List.getD book (p_1.1:Int).toNat Cod.noG).2.1.length:Int)=(↑(List.getD book (p_1.1:Int).toNat Cod.noG).2.1.length:Int)∧True)∧(zHeJ0_8 book e p_1)∧(p_2.2++[e.ws.getD ((List.getD book (p_1.1:Int).toNat Cod.noG).2.1.getD (p_2.1:Int).toNat (0:Int)).toNat []]=p'.2∧p.2.2=p.2.2∧p_1.2=p_1.2∧True)∧True∧True∧True∧True∧True∧True∧True else (p_2.2.length≤(1000000:Nat)∧p.2.2.length≤(1000000:Nat))∧bif p_2.2==p.2.2 then ((List.getD book (p_1.1:Int).toNat Cod.noG).1,false,(0:Int))=Hea.q09 e book text else (∃ (p':Nat),(q8m e p p' p_2)∧((0:Int)=(p':Int)∧True∧True∧(↑[((102:Nat),[(nat_lit 22011,nat_lit 0)].length,[(nat_lit 22011,nat_lit 0)]++[]),((103:Nat),[(nat_lit 22011,nat_lit 0)].length,[(nat_lit 22011,nat_lit 0)]++[]),((104:Nat),[(nat_lit 22011,nat_lit 0)].length,[(nat_lit 22011,nat_lit 0)]++[])].length:Int)=(↑[((102:Nat),[(nat_lit 22011,nat_lit 0)].length,[(nat_lit 22011,nat_lit 0)]++[]),((103:Nat),[(nat_lit 22011,nat_lit 0)].length,[(nat_lit 22011,nat_lit 0)]++[]),((104:Nat),[(nat_lit 22011,nat_lit 0)].length,[(nat_lit 22011,nat_lit 0)]++[])].length:Int)∧True)∧(q2c book e p_1)∧(q1x p p_1 p_2)∧True∧True∧(q8s book p_1)∧True∧True∧True∧True)∧∀ (p_3:Nat),p_3≤(3:Nat)∧((1:Nat)≤p_3→Hea.q2q (Hea.q04 e) p_2.2 p.2.2=false)∧((2:Nat)≤p_3→Hea.q36 p_2.2 p.2.2=false)∧((3:Nat)≤p_3→Hea.q35 p_2.2 p.2.2=false)→bif decide ((p_3:Int)<(↑[((102:Nat),[(nat_lit 22011,nat_lit 0)].length,[(nat_lit 22011,nat_lit 0)]++[]),((103:Nat),[(nat_lit 22011,nat_lit 0)].length,[(nat_lit 22011,nat_lit 0)]++[]),((104:Nat),[(nat_lit 22011,nat_lit 0)].length,[(nat_lit 22011,nat_lit 0)]++[])].length:Int)) then (0≤(p_3:Int)∧(p_3:Int)<(↑[((102:Nat),[(nat_lit 22011,nat_lit 0)].length,[(nat_lit 22011,nat_lit 0)]++[]),((103:Nat),[(nat_lit 22011,nat_lit 0)].length,[(nat_lit 22011,nat_lit 0)]++[]),((104:Nat),[(nat_lit 22011,nat_lit 0)].length,[(nat_lit 22011,nat_lit 0)]++[])].length:Int))∧((p_3:Int)=(↑(nat_lit 0):Int)→bif (p_2.2.length:Int) != (p.2.2.length:Int) then (zFit ((p_3:Int)+1))∧∃ (p':Nat),(q8m e p p' p_2)∧(3:Nat)-p'<(3:Nat)-p_3∧(qaf p' p_3)∧(q2c book e p_1)∧(q1x p p_1 p_2)∧True∧True∧(q8s book p_1)∧True∧True∧True∧True else (∃ (p':Nat×Nat),(qd5 e p p' p_2)∧((0:Int)=(p'.1:Int)∧(0:Int)=(p'.2:Int)∧True∧True∧True∧(p.2.2.length:Int)=(p.2.2.length:Int)∧True)∧(q2c book e p_1)∧(q1x p p_1 p_2)∧True∧True∧(q40 book p_1 p_3)∧True∧True∧True∧True)∧∀ (p_4:Nat×Nat),p_4.1≤p.2.2.length∧p_4.2=(Hea.diff (List.take p_4.1 p_2.2) (List.take p_4.1 p.2.2)).length∧((Hea.diff (List.take p_4.1 p_2.2) (List.take p_4.1 p.2.2)).all fun (q:Hea.Str×Hea.Str)=>Hea.q04 e q.1 q.2)=true→bif decide ((p_4.1:Int)<(p.2.2.length:Int)) then (0≤(p_4.1:Int)∧(p_4.1:Int)<(p.2.2.length:Int))∧(0≤(p_4.1:Int)∧(p_4.1:Int)<(p_2.2.length:Int))∧bif !p.2.2.getD (p_4.1:Int).toNat []==p_2.2.getD (p_4.1:Int).toNat [] then (zFit ((p_4.2:Int)+1))∧(0≤(p_4.1:Int)∧(p_4.1:Int)<(p_2.2.length:Int))∧(q0u e.c∧(p_2.2.getD (p_4.1:Int).toNat []).length≤(1000000:Nat)∧(p.2.2.getD (p_4.1:Int).toNat []).length≤(1000000:Nat))∧bif !Snd.q28 e.c (p_2.2.getD (p_4.1:Int).toNat []) (p.2.2.getD (p_4.1:Int).toNat []) then (zFit ((p_3:Int)+1))∧∃ (p':Nat),(q8m e p p' p_2)∧(3:Nat)-p'<(3:Nat)-p_3∧(qaf p' p_3)∧(q2c book e p_1)∧(q1x p p_1 p_2)∧True∧True∧(q8s book p_1)∧True∧True∧True∧True else (zFit ((p_4.1:Int)+1))∧∃ (p':Nat×Nat),(qd5 e p p' p_2)∧p.2.2.length-p'.1<p.2.2.length-p_4.1∧((p_4.1:Int)+1=(p'.1:Int)∧(p_4.2:Int)+1=(p'.2:Int)∧True∧True∧True∧(p.2.2.length:Int)=(p.2.2.length:Int)∧True)∧(q2c book e p_1)∧(q1x p p_1 p_2)∧True∧True∧(q40 book p_1 p_3)∧True∧True∧True∧True else (zFit ((p_4.1:Int)+1))∧∃ (p':Nat×Nat),(qd5 e p p' p_2)∧p.2.2.length-p'.1<p.2.2.length-p_4.1∧((p_4.1:Int)+1=(p'.1:Int)∧(p_4.2:Int)=(p'.2:Int)∧True∧True∧True∧(p.2.2.length:Int)=(p.2.2.length:Int)∧True)∧(q2c book e p_1)∧(q1x p p_1 p_2)∧True∧True∧(q40 book p_1 p_3)∧True∧True∧True∧True else bif (p_4.2:Int)==(1:Int) then (p_1.2.length+[(List.getD book (p_1.1:Int).toNat Cod.noG).1].length)*(16:Nat)≤(140737488355328:Nat)∧(zFit ((p_1.1:Int)+1))∧∃ (p':Nat×List (List UInt8)),(q7b book e p p')∧List.length book-p'.1<List.length book-p_1.1∧(q8o book p' p_1)∧(q79 e)∧(p.2.2=p.2.2∧p_1.2++[(List.getD book (p_1.1:Int).toNat Cod.noG).1]=p'.2∧True)∧True∧True∧True∧True∧True∧True∧True else (zFit ((p_3:Int)+1))∧∃ (p':Nat),(q8m e p p' p_2)∧(3:Nat)-p'<(3:Nat)-p_3∧(qaf p' p_3)∧(q2c book e p_1)∧(q1x p p_1 p_2)∧True∧True∧(q8s book p_1)∧True∧True∧True∧True)∧((p_3:Int)=(↑(nat_lit 1):Int)→(∃ (p':Nat),(p'≤p_2.2.length∧∀ (i:Nat),i<p'→(p_2.2.eraseIdx i==p.2.2)=false)∧((0:Int)=(p':Int)∧True∧True∧(p_2.2.length:Int)=(p_2.2.length:Int)∧True)∧(q2c book e p_1)∧(q1x p p_1 p_2)∧True∧True∧(q40 book p_1 p_3)∧True∧True∧True∧True)∧∀ (p_4:Nat),(p_4≤p_2.2.length∧∀ (i:Nat),i<p_4→(p_2.2.eraseIdx i==p.2.2)=false)→bif decide ((p_4:Int)<(p_2.2.length:Int)) then (zFit ((p_4:Int)+1))∧(p_2.2.length≤(1000000:Nat)∧((qde p_2 p_4)∧((p_2.2.eraseIdx (p_4:Int).toNat).length≤(1000000:Nat)∧p.2.2.length≤(1000000:Nat))∧bif p_2.2.eraseIdx (p_4:Int).toNat==p.2.2 then (p_1.2.length+[(List.getD book (p_1.1:Int).toNat Cod.noG).1].length)*(16:Nat)≤(140737488355328:Nat)∧(zFit ((p_1.1:Int)+1))∧∃ (p':Nat×List (List UInt8)),(q7b book e p p')∧List.length book-p'.1<List.length book-p_1.1∧(q8o book p' p_1)∧(q79 e)∧(p.2.2=p.2.2∧p_1.2++[(List.getD book (p_1.1:Int).toNat Cod.noG).1]=p'.2∧True)∧True∧True∧True∧True∧True∧True∧True else (zFit ((p_4:Int)+1))∧∃ (p':Nat),(p'≤p_2.2.length∧∀ (i:Nat),i<p'→(p_2.2.eraseIdx i==p.2.2)=false)∧p_2.2.length-p'<p_2.2.length-p_4∧((p_4:Int)+1=(p':Int)∧True∧True∧(p_2.2.length:Int)=(p_2.2.length:Int)∧True)∧(q2c book e p_1)∧(q1x p p_1 p_2)∧True∧True∧(q40 book p_1 p_3)∧True∧True∧True∧True)∧(qde p_2 p_4)∧((p_2.2.eraseIdx (p_4:Int).toNat).length≤(1000000:Nat)∧p.2.2.length≤(1000000:Nat))∧bif p_2.2.eraseIdx (p_4:Int).toNat==p.2.2 then (p_1.2.length+[(List.getD book (p_1.1:Int).toNat Cod.noG).1].length)*(16:Nat)≤(140737488355328:Nat)∧(zFit ((p_1.1:Int)+1))∧∃ (p':Nat×List (List UInt8)),(q7b book e p p')∧List.length book-p'.1<List.length book-p_1.1∧(q8o book p' p_1)∧(q79 e)∧(p.2.2=p.2.2∧p_1.2++[(List.getD book (p_1.1:Int).toNat Cod.noG).1]=p'.2∧True)∧True∧True∧True∧True∧True∧True∧True else (zFit ((p_4:Int)+1))∧∃ (p':Nat),(p'≤p_2.2.length∧∀ (i:Nat),i<p'→(p_2.2.eraseIdx i==p.2.2)=false)∧p_2.2.length-p'<p_2.2.length-p_4∧((p_4:Int)+1=(p':Int)∧True∧True∧(p_2.2.length:Int)=(p_2.2.length:Int)∧True)∧(q2c book e p_1)∧(q1x p p_1 p_2)∧True∧True∧(q40 book p_1 p_3)∧True∧True∧True∧True)∧p_2.2.length≤(1000000:Nat)∧(qde p_2 p_4)∧((p_2.2.eraseIdx (p_4:Int).toNat).length≤(1000000:Nat)∧p.2.2.length≤(1000000:Nat))∧bif p_2.2.eraseIdx (p_4:Int).toNat==p.2.2 then (p_1.2.length+[(List.getD book (p_1.1:Int).toNat Cod.noG).1].length)*(16:Nat)≤(140737488355328:Nat)∧(zFit ((p_1.1:Int)+1))∧∃ (p':Nat×List (List UInt8)),(q7b book e p p')∧List.length book-p'.1<List.length book-p_1.1∧(q8o book p' p_1)∧(q79 e)∧(p.2.2=p.2.2∧p_1.2++[(List.getD book (p_1.1:Int).toNat Cod.noG).1]=p'.2∧True)∧True∧True∧True∧True∧True∧True∧True else (zFit ((p_4:Int)+1))∧∃ (p':Nat),(p'≤p_2.2.length∧∀ (i:Nat),i<p'→(p_2.2.eraseIdx i==p.2.2)=false)∧p_2.2.length-p'<p_2.2.length-p_4∧((p_4:Int)+1=(p':Int)∧True∧True∧(p_2.2.length:Int)=(p_2.2.length:Int)∧True)∧(q2c book e p_1)∧(q1x p p_1 p_2)∧True∧True∧(q40 book p_1 p_3)∧True∧True∧True∧True else (zFit ((p_3:Int)+1))∧∃ (p':Nat),(q8m e p p' p_2)∧(3:Nat)-p'<(3:Nat)-p_3∧(qaf p' p_3)∧(q2c book e p_1)∧(q1x p p_1 p_2)∧True∧True∧(q8s book p_1)∧True∧True∧True∧True)∧((p_3:Int)=(↑(nat_lit 2):Int)→(zFit ((p_2.2.length:Int)-1))∧(∃ (p':Nat),(p'≤p_2.2.length-(1:Nat)∧∀ (i:Nat),i<p'→(Hea.q19 p_2.2 i==p.2.2&&p_2.2.getD i [] != p_2.2.getD (i+(1:Nat)) [])=false)∧((0:Int)=(p':Int)∧True∧True∧(p_2.2.length:Int)-1=(p_2.2.length:Int)-1∧True)∧(q2c book e p_1)∧(q1x p p_1 p_2)∧True∧True∧(q40 book p_1 p_3)∧True∧True∧True∧True)∧∀ (p_4:Nat),(p_4≤p_2.2.length-(1:Nat)∧∀ (i:Nat),i<p_4→(Hea.q19 p_2.2 i==p.2.2&&p_2.2.getD i [] != p_2.2.getD (i+(1:Nat)) [])=false)→bif decide ((p_4:Int)<(p_2.2.length:Int)-1) then p_2.2.length≤(1000000:Nat)∧((zFit ((p_4:Int)+1))∧(0≤(p_4:Int)+1∧(p_4:Int)+1<(p_2.2.length:Int))∧(0≤(p_4:Int)∧(p_4:Int)<(p_2.2.length:Int))∧(0≤(p_4:Int)∧(p_4:Int)<(p_2.2.length:Int))∧(zFit ((p_4:Int)+1))∧bif (p_4:Int).toNat.beq (p_4:Int).toNat then (0≤(p_4:Int)+1∧(p_4:Int)+1<(↑(p_2.2.set (p_4:Int).toNat (p_2.2.getD ((p_4:Int)+1).toNat [])).length:Int))∧bif ((p_4:Int)+1).toNat.beq ((p_4:Int)+1).toNat then ∃ (p':Unit),True∧(True∧True∧(p_4:Int)=(p_4:Int)∧True∧(p_2.2.length:Int)-1=(p_2.2.length:Int)-1∧(p_4:Int)=(p_4:Int)∧True)∧(q2c book e p_1)∧((p_2.2.set (p_4:Int).toNat (p_2.2.getD ((p_4:Int)+1).toNat [])).set ((p_4:Int)+1).toNat (p_2.2.getD (p_4:Int).toNat [])=Hea.q19 p_2.2 (p_4:Int).toNat∧p.2.2=p.2.2∧p_1.2=p_1.2∧p_2.2=p_2.2∧True)∧True∧True∧(q40 book p_1 p_3)∧True∧True∧True∧True else False else False)∧∀ (p_5:Unit),True→((Hea.q19 p_2.2 (p_4:Int).toNat).length≤(1000000:Nat)∧p.2.2.length≤(1000000:Nat))∧bif Hea.q19 p_2.2 (p_4:Int).toNat==p.2.2 then (0≤(p_4:Int)∧(p_4:Int)<(p_2.2.length:Int))∧(zFit ((p_4:Int)+1))∧(0≤(p_4:Int)+1∧(p_4:Int)+1<(p_2.2.length:Int))∧bif !p_2.2.getD (p_4:Int).toNat []==p_2.2.getD ((p_4:Int)+1).toNat [] then (p_1.2.length+[(List.getD book (p_1.1:Int).toNat Cod.noG).1].length)*(16:Nat)≤(140737488355328:Nat)∧(zFit ((p_1.1:Int)+1))∧∃ (p':Nat×List (List UInt8)),(q7b book e p p')∧List.length book-p'.1<List.length book-p_1.1∧(q8o book p' p_1)∧(q79 e)∧(p.2.2=p.2.2∧p_1.2++[(List.getD book (p_1.1:Int).toNat Cod.noG).1]=p'.2∧True)∧True∧True∧True∧True∧True∧True∧True else (zFit ((p_4:Int)+1))∧∃ (p':Nat),(p'≤p_2.2.length-(1:Nat)∧∀ (i:Nat),i<p'→(Hea.q19 p_2.2 i==p.2.2&&p_2.2.getD i [] != p_2.2.getD (i+(1:Nat)) [])=false)∧p_2.2.length-(1:Nat)-p'<p_2.2.length-(1:Nat)-p_4∧((p_4:Int)+1=(p':Int)∧True∧True∧(p_2.2.length:Int)-1=(p_2.2.length:Int)-1∧True)∧(q2c book e p_1)∧(q1x p p_1 p_2)∧True∧True∧(q40 book p_1 p_3)∧True∧True∧True∧True else (zFit ((p_4:Int)+1))∧∃ (p':Nat),(p'≤p_2.2.length-(1:Nat)∧∀ (i:Nat),i<p'→(Hea.q19 p_2.2 i==p.2.2&&p_2.2.getD i [] != p_2.2.getD (i+(1:Nat)) [])=false)∧p_2.2.length-(1:Nat)-p'<p_2.2.length-(1:Nat)-p_4∧((p_4:Int)+1=(p':Int)∧True∧True∧(p_2.2.length:Int)-1=(p_2.2.length:Int)-1∧True)∧(q2c book e p_1)∧(q1x p p_1 p_2)∧True∧True∧(q40 book p_1 p_3)∧True∧True∧True∧True else (zFit ((p_3:Int)+1))∧∃ (p':Nat),(q8m e p p' p_2)∧(3:Nat)-p'<(3:Nat)-p_3∧(qaf p' p_3)∧(q2c book e p_1)∧(q1x p p_1 p_2)∧True∧True∧(q8s book p_1)∧True∧True∧True∧True) else (zFit ((p_1.1:Int)+1))∧∃ (p':Nat×List (List UInt8)),(q7b book e p p')∧List.length book-p'.1<List.length book-p_1.1∧(q8o book p' p_1)∧(q79 e)∧(p.2.2=p.2.2∧p_1.2=p'.2∧True)∧True∧True∧True∧True∧True∧True∧True else bif (p_1.2.length:Int)==(0:Int) then ([],false,(10:Int))=Hea.q09 e book text else bif (p_1.2.length:Int)==(1:Int) then ((0:Int)≤0∧0<(p_1.2.length:Int))∧(p_1.2.getD (nat_lit 0) [],true,(0:Int))=Hea.q09 e book text else ([],false,(8:Int))=Hea.q09 e book text:=by
 delta q2c q40 qaf q8m q7b zHeJ0_5 q8s q8o zHeJ0_8 q79 q1x qd5 qde zFit
 obtain ⟨hW,hC,hB,hT⟩:=h
 have hT:text.length≤1000:=hT
 simp only [true_and,and_true]
 refine ⟨⟨hW,hC,hB⟩,bifP (fun hb=>?_) fun hb=>?_⟩
 ·unfold Hea.q09
  rw [if_pos hb]
 have hp:e.proper book=true:=by simpa using hb
 have hh:Hea.q09 e book text=match Hea.q86 text with
   | none=>([],false,5)
   | some words=>Hea.q0h (Hea.q04 e) e.ws words book []:=by
  unfold Hea.q09
  rw [hp]; rfl
 refine ⟨⟨(true,text,[]),⟨rfl,rfl,Nat.zero_le _,Nat.le_refl _⟩,rfl,rfl,rfl⟩,?_⟩
 rintro ⟨more,rest,w⟩ hlis
 have hlis:q3x text more rest w:=hlis
 have hlw:w.length≤5:=hlis.2.2.1
 have hlr:rest.length≤text.length:=hlis.2.2.2
 dsimp only
 refine bifP (fun hb=>?_) fun hb=>?_
 ·obtain rfl:more=true:=hb
  have bad:Hea.q6q (cutF rest).1=false∨w.length=5→([],false,(5:Int))=Hea.q09 e book text:=fun h=>by
   rw [hh,Hea.lis_bad hlis h]
  have hcl:(cutF rest).1.length≤1000000:=by
   unfold cutF
   split
   ·dsimp only; rw [List.length_take]; omega
   ·dsimp only; omega
  refine ⟨by omega,hcl,bifP (fun hb=>bad (.inl (Hea.q8j (.inl hb)))) fun h1=>bifP (fun hb=>bad (.inl (Hea.q8j (.inr (.inl hb))))) fun h2=>bifP (fun hb=>bad (.inl (Hea.q8j (.inr (.inr (of_decide_eq_true hb)))))) fun h3=>bifP (fun hb=>bad (.inr (by have:=eq_of_beq hb; omega))) fun h4=>?_⟩
  have h5:w.length<5:=by rw [beq_eq_false_iff_ne] at h4; omega
  have hst:=Hea.lis_step hlis (Hea.word_of h1 h2 (of_decide_eq_false h3)) h5
  have hg:(w.length+[(cutF rest).1].length)*16≤140737488355328∧∃ p':Bool×List UInt8×List (List UInt8),q3x text p'.1 p'.2.1 p'.2.2∧((if p'.1=true then p'.2.1.length+1 else 0)<if true=true then rest.length+1 else 0)∧(cutF rest).2.2=p'.1∧(cutF rest).2.1=p'.2.1∧w++[(cutF rest).1]=p'.2.2 :=
   ⟨by rw [List.length_singleton]; omega,((cutF rest).2.2,(cutF rest).2.1,w++[(cutF rest).1]),hst,Hea.lis_less,rfl,rfl,rfl⟩
  exact ⟨hg,hg,hg⟩
 ·obtain rfl:more=false:=hb
  have hv:Hea.q09 e book text=Hea.q0h (Hea.q04 e) e.ws w book []:=by rw [hh,Hea.lis_end hlis]
  have hwl:∀ s∈w,s.length≤1000000:=fun s hs=>by
   have:=List.all_eq_true.1 hlis.2.1 s hs
   unfold Hea.q6q at this
   simp only [Bool.and_eq_true,decide_eq_true_eq] at this
   omega
  exact qiu e book w _ _ rfl hp hC hW.2.2 hlw hwl hB.1 hv
end Go.Proofs.YtfecgebhoondjaaGreatDoor
set_option linter.unusedVariables false
namespace Go.Proofs.YtfecgebhoondjaaGreatDoor
open Go.RowKit
open R
theorem inlHe_ok:q0g Tryz.prog inlHe:=q0g.more Tryz.func50 (by kernel_rfl) (by kernel_rfl) (q0g.more Tryz.func97 (by kernel_rfl) (by kernel_rfl) (q0g.more Tryz.func99 (by
  kernel_rfl) (by kernel_rfl) (q0g.more Tryz.func140 (by kernel_rfl) (by kernel_rfl) (q0g.more Tryz.func51 (by kernel_rfl) (by kernel_rfl) (q0g.more
  Tryz.func107 (by kernel_rfl) (by kernel_rfl) (q0g.more Tryz.func102 (by kernel_rfl) (by kernel_rfl) (q0g.more
  Tryz.func103 (by kernel_rfl) (by kernel_rfl) (q0g.more Tryz.func104 (by kernel_rfl) (by kernel_rfl) (q0g.more
  Tryz.func106 (by kernel_rfl) (by kernel_rfl) (q0g.more Tryz.func145 (by kernel_rfl) (by
  kernel_rfl) (q0g.nil)))))))))))
theorem kitHe_ok:kitHe.Ok Tryz.prog where
 cons:=all_cons q9q (all_cons qgf (all_cons cut_holds (all_cons (show cEqS.lent.Holds Tryz.prog from eqS_holds) all_nil)))
 ns:=all_cons qfh all_nil
 os:=all_cons qe2 all_nil
 fcs:=all_cons qit all_nil
 rcs:=all_nil
 inls:=inlHe_ok
set_option maxRecDepth 100000000 in
theorem qj3:cHear.Holds Tryz.prog:=by
 refine holdsX (T:=kitHe) (fun p=>anHe hfHear [] ⟨p.1.1,p.1.2,p.2.1⟩ p.2.2.1 p.2.2.2) Tryz.func18 (by kernel_rfl) (by kernel_rfl) mixed (by kernel_rfl) kitHe_ok (fun _=>[]) fun p hp=>?_
 obtain ⟨⟨lang,ws⟩,c,book,text⟩:=p
 refine cast ?_ (hear_vc ⟨lang,ws,c⟩ book text hp)
 kernel_rfl
end Go.Proofs.YtfecgebhoondjaaGreatDoor

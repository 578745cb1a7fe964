/-
  Several texts in one: HeH, HeLB, HeLC, CoGA, HeI, HeJL, HeK, HeJ, HeM, HeN.
-/
import Derived.Test.YtfecgebhoondjaaGreatDoorPP
import Derived.Test.YtfecgebhoondjaaGreatDoorPL
import Derived.Test.YtfecgebhoondjaaGreatDoorPA
set_option linter.unusedVariables false
namespace Go.Proofs.YtfecgebhoondjaaGreatDoor
open Go.RowKit
open R
def fOdd:FCon:={ f:=100,args:=[q30],fa:=.fn 101,res:=[q2v],pre:=fun s _=>List.length s≤1000000,F:=fun s _=>List.any s fun c=>!Snd.letB c }
theorem idx_odd (s:List UInt8):∀ (f pos:Nat),s.length-pos≤f→(decide (0≤Lib.idxFuncFrom (fun x=>oddR (x:Int)) true (bs s) f pos))=(s.drop pos).any fun c=>!Snd.letB c
 | 0,pos,h=>by
  rw [List.drop_eq_nil_of_le (by omega)]; rfl
 | f+1,pos,h=>by
  unfold Lib.idxFuncFrom
  by_cases hp:pos<(bs s).size
  ·rw [if_pos hp]
   have hp':pos<s.length:=hp
   obtain ⟨h1,h2,h3⟩:=rune_is s pos hp
   have hd:s.drop pos=s.getD pos 0::s.drop (pos+1):=by
    rw [List.drop_eq_getElem_cons hp',List.getD_eq_getElem?_getD,List.getElem?_eq_getElem hp']; rfl
   rw [hd,List.any_cons]
   cases hl:Snd.letB (s.getD pos 0)
   ·have h3:=h3 hl
    have ho:oddR ((Utf8.decode (bs s) pos).1:Int)=true:=by
     unfold oddR; simp only [Bool.or_eq_true,decide_eq_true_eq]; omega
    rw [if_pos ho,decide_eq_true (Int.natCast_nonneg pos)]; rfl
   ·obtain ⟨h4,h5,h6⟩:=h2 hl
    have ho:oddR (((s.getD pos 0).toNat:Int))=false:=by
     unfold oddR; simp only [Bool.or_eq_false_iff,decide_eq_false_iff_not]; omega
    rw [h4]
    dsimp only
    rw [ho,if_neg (by decide),idx_odd s f (pos+1) (by omega)]; rfl
  ·rw [if_neg hp,List.drop_eq_nil_of_le (by have:(bs s).size=s.length:=rfl; omega)]; rfl
set_option maxRecDepth 100000 in
theorem odd_calls (W:World) (x:Nat):Calls Tryz.prog 101 (#[encR x]++#[]) W fun e w'=>e=.returned (.bool (oddR (x:Int)))∧Below W.heap.size W w':=by
 have h:=odd_holds.2 (x:Int) [.int .i32 x] W (fun _=>False) (fun _ h=>h.elim) trivial ⟨rfl,fun i c hc=>by
  match i,hc with
  | 0,hc=>injection hc with hc; subst hc; exact ⟨_,rfl,rfl⟩
  | i+1,hc=>cases hc⟩
 refine h.mono ?_
 rintro e w' ⟨r,v,rfl,hr,hv,hb⟩
 have hr:r=oddR (x:Int):=hr
 have hv:v=.bool r:=hv
 rw [hv,hr]
 exact ⟨rfl,hb⟩
set_option maxRecDepth 100000 in
theorem qi2:fOdd.Holds Tryz.prog:=by
 refine ⟨⟨_,Tryz.func100,by kernel_rfl,by kernel_rfl⟩,fun p b vs fvs w S hS hpre hvs hfa=>?_⟩
 have hfa:fvs=[.func (.func 101) #[] #[]]:=hfa
 subst hfa
 obtain ⟨s,rfl⟩:∃ q:List UInt8,q=p:=⟨p,rfl⟩
 obtain ⟨v,rfl,hv⟩:=q11 hvs
 obtain rfl:v=.string (bs s):=hv
 refine (Tryz.strings_ContainsFunc_grows 101 #[] (enters_of Tryz.func101 (by kernel_rfl) rfl) (fun x=>oddR (x:Int)) (bs s) w (fun W x _ _=>odd_calls W x)).mono ?_
 rintro e w' ⟨rfl,hb⟩
 refine ⟨hb,_,rfl,?_⟩
 have hi:=idx_odd s (bs s).size 0 (by show s.length-0≤s.length; omega)
 rw [List.drop_zero] at hi
 show Value.bool (decide (0≤Lib.idxFunc _ true (bs s)))=Value.bool _
 unfold Lib.idxFunc
 rw [hi]; rfl
end Go.Proofs.YtfecgebhoondjaaGreatDoor
set_option linter.unusedVariables false
namespace Go.Proofs.YtfecgebhoondjaaGreatDoor
namespace Hea
theorem own_len (ws:List Str) (l:List Int):(ownW ws l).length=l.length:=by unfold ownW; rw [List.length_map]
theorem proper_code {e:Cod.Ear} {book:List Cod.Giv} (h:e.proper book=true) {g:Cod.Giv} (hg:g∈book):e.ok=true∧Cod.q2j e.lang e.ws g.2.1=true:=by
 obtain ⟨h1,_,h3,_⟩:=Cod.q7x.1 h
 have:=h3 g hg
 unfold Cod.okG at this
 simp only [Bool.and_eq_true] at this
 exact ⟨h1,this.2.2⟩
end Hea
end Go.Proofs.YtfecgebhoondjaaGreatDoor
set_option linter.unusedVariables false
namespace Go.Proofs.YtfecgebhoondjaaGreatDoor
namespace Hea
theorem end_cases (l:List Str):(l=[]∧endB l=([],false,10))∨(∃ d,l=[d]∧endB l=(d,true,0))∨endB l=([],false,8)∧2≤l.length:=by
 match l with
 | []=>exact .inl ⟨rfl,rfl⟩
 | [d]=>exact .inr (.inl ⟨d,rfl,rfl⟩)
 | _::_::_=>exact .inr (.inr ⟨rfl,by simp⟩)
theorem hear_bad {e:Cod.Ear} {book:List Cod.Giv} {text:Str} (h:(q0n e book text).2.2≠0):(q0n e book text).1=[]∧(q0n e book text).2.1=false∧((q0n e book text).2.2=1↔e.proper book=false):=by
 unfold q0n at *
 cases hp:e.proper book
 ·exact ⟨rfl,rfl,fun _=>rfl,fun _=>rfl⟩
 ·rw [hp] at h
  cases hs:q6n text with
  | none =>
   show ([]:Str)=[]∧false=false∧((5:Int)=1↔true=false)
   exact ⟨rfl,rfl,by decide⟩
  | some words =>
   rw [hs] at h
   have h:(q0f (q04 e) e.ws words book []).2.2≠0:=h
   show (q0f (q04 e) e.ws words book []).1=[]∧(q0f (q04 e) e.ws words book []).2.1=false∧((q0f (q04 e) e.ws words book []).2.2=1↔true=false)
   rw [qb9,List.nil_append] at *
   cases hf:book.find? (qca e.ws words) with
   | some g=>rw [hf] at h; exact absurd rfl h
   | none =>
    rw [hf] at h
    dsimp only at h ⊢
    rcases end_cases (qav (q04 e) e.ws words book) with ⟨_,hE⟩ | ⟨d',_,hE⟩ | ⟨hE,_⟩
    ·rw [hE]; exact ⟨rfl,rfl,fun h=>absurd h (by decide),fun h=>absurd h (by decide)⟩
    ·rw [hE] at h; exact absurd rfl h
    ·rw [hE]; exact ⟨rfl,rfl,fun h=>absurd h (by decide),fun h=>absurd h (by decide)⟩
end Hea
end Go.Proofs.YtfecgebhoondjaaGreatDoor
set_option linter.unusedVariables false
namespace Go.Proofs.YtfecgebhoondjaaGreatDoor
open Go.RowKit
open R
namespace R
def Get.slOf (fs:Kds) (t:Nat) (st:St):List fs.Pay:=match st.get t with
 | .c (.one (.val (.sl fs') xs))=>match fs'.deq fs with
  | some ⟨h⟩=>q3c h xs
  | none=>[]
 | _=>[]
end R
def upL:Up:={ o:=19000,fr:=[(76,[5,8,10,12])],box:=[5,8,10],maps:=[] }
end Go.Proofs.YtfecgebhoondjaaGreatDoor
set_option linter.unusedVariables false
namespace Go.Proofs.YtfecgebhoondjaaGreatDoor
open Go.RowKit
open R
def cHear:Con:=.of 18 [ckWl,ckCf,q5v,q30] [q30,q2v,ckErr1] (fun p=>q1g p.1∧q0t p.2.1∧q3y p.2.2.1∧List.length p.2.2.2≤1000) (fun p=>Hea.q0n ⟨p.1.1,p.1.2,p.2.1⟩ p.2.2.1 p.2.2.2)
noncomputable def inlHe:List (Nat×Func):=[(50,Tryz.f50),(97,Tryz.f97),(99,Tryz.f99),(140,Tryz.f140),
 (51,Tryz.f51),(107,Tryz.f107),(102,Tryz.f102),(103,Tryz.f103),(104,Tryz.f104),
 (106,Tryz.f106),(145,Tryz.f145)]
noncomputable def kitHe:Kit:={ cons:=[qdi,cAlike,cCut,cEqS.lent],ns:=[nCloneS],os:=[qhi],fcs:=[fOdd],inls:=inlHe }
def q5u (l:List (List UInt8)):Row:=⟨9,kS,l⟩
def R.Get.rowS (r:Nat) (st:St):List (List UInt8):=match st.row r with
 | some y=>match y.fs.deq kS with
  | some ⟨h⟩=>q3c h y.xs
  | none=>[]
 | none=>[]
structure Hf where
 L:Nat
 F:Nat
 upL:List (Nat×List Nat)
 upF:List (Nat×List Nat)
 boxL:List Nat
def Hf.wr (h:Hf):Nat:=(h.L+1)*1000+742
def Hf.dr (h:Hf):Nat:=h.F+60
def Hf.or_ (h:Hf):Nat:=h.F+43
def Hf.sBox (h:Hf):List Nat:=[h.L+11,h.L+2,h.F+4]
def R.keepRows (l:List Nat) (st:St):List (Nat×Row):=l.map fun r=>(r,q5u (Get.rowS r st))
def q3x (text:List UInt8) (more:Bool) (rest:List UInt8) (w:List (List UInt8)):Prop :=
 Hea.cutW text=(if more then w++Hea.cutW rest else w)∧w.all Hea.q6o=true∧w.length≤5∧rest.length≤text.length
def anWords (h:Hf) (text:List UInt8):List (Nat×Ann) :=
 [annX 0 (Bool×List UInt8×List (List UInt8))
  (fun st p=>st.hd { live:=[0,1],sav:=savK 0 ((46,[4,5,6])::h.upL),box:=[h.L+2,h.L+4,h.L+5,h.L+6]++h.boxL,lp:=[4,5,6] } [(3,bool p.1)]
   [((h.L+14)*1000+1,[.val .str p.2.1]),(h.L+11,[.own h.wr,.clo 97 0 [(h.L+2,0)]])] [(h.wr,q5u p.2.2)] [] none)
  (fun _ p=>q3x text p.1 p.2.1 p.2.2)
  (fun _ p=>if p.1 then p.2.1.length+1 else 0)]
def anListen:List (Nat×Ann):=[q9g 7]
def anFindH (h:Hf) (bk:List (Nat×Row)) (e:Cod.Ear) (book:q0d):List (Nat×Ann) :=
 [annX 0 (Nat×List (List UInt8))
  (fun st p=>st.hd { live:=[0,4,10,23],sav:=savK 0 h.upF,box:=h.sBox } [(25,R.int .i64 p.1),(9,ownAV h.dr),(24,R.int .i64 book.length)] [] ([(h.wr,q5u (Get.rowS h.wr st)),(h.dr,q5u p.2)]++bk) [] none)
  (fun st p=>p.1≤book.length∧p.2.length≤p.1∧Hea.q0f (Hea.q04 e) e.ws (Get.rowS h.wr st) book []=Hea.q0f (Hea.q04 e) e.ws (Get.rowS h.wr st) (book.drop p.1) p.2)
  (fun _ p=>book.length-p.1),
 annX 2 (Nat×List (List UInt8))
  (fun st p=>st.hd { live:=[0,4,9,10,12,13,23,24,25,30,31],sav:=savK 0 h.upF,box:=h.sBox++[h.F+12] } [(32,R.int .i64 p.1)] [(h.F+13,[.own h.or_])] ((h.or_,q5u p.2)::(keepRows [h.wr,h.dr] st++bk)) [] none)
  (fun st p=>p.1≤(Get.slOf (.one (.int .i64)) 30 st).length∧p.2=Hea.ownW e.ws ((Get.slOf (.one (.int .i64)) 30 st).take p.1))
  (fun st p=>(Get.slOf (.one (.int .i64)) 30 st).length-p.1),
 q9g 10,q9g 12]
def Hf.sav (h:Hf) (ahead:List (Nat×List Nat)):List Nat:=savK 0 (ahead++[(9,[]),(71,[0,4,9,10,12,23,24,25])]++h.upF)
def Hf.rows (h:Hf) (bk:List (Nat×Row)) (st:St):List (Nat×Row):=keepRows [h.wr,h.dr,h.or_] st++bk
def anIndexH (h:Hf) (bk:List (Nat×Row)) (e:Cod.Ear):List (Nat×Ann) :=
 [annX 0 Nat
  (fun st p=>st.hd { live:=[0,1,7],sav:=h.sav [],box:=h.sBox++[h.F+12,h.F+13] } [(8,R.int .i64 p)] [] (h.rows bk st) [] none)
  (fun st p=>p≤3∧(1≤p→Hea.q2s (Hea.q04 e) (Get.rowS h.or_ st) (Get.rowS h.wr st)=false)∧(2≤p→Hea.q38 (Get.rowS h.or_ st) (Get.rowS h.wr st)=false)∧(3≤p→Hea.q37 (Get.rowS h.or_ st) (Get.rowS h.wr st)=false))
  (fun _ p=>3-p)]
def Hf.savW (h:Hf):List Nat:=h.sav [(7,[]),(19,[0,1,5,7,8])]
def Hf.boxW (h:Hf):List Nat:=h.sBox++[h.F+12,h.F+13]
def anReplH (h:Hf) (bk:List (Nat×Row)) (e:Cod.Ear):List (Nat×Ann) :=
 [annX 0 (Nat×Nat)
  (fun st p=>st.hd { live:=[0,1,19,20],sav:=h.savW,box:=h.boxW } [(21,R.int .i64 p.1),(5,R.int .i64 p.2)] [] (h.rows bk st) [] none)
  (fun st p=>p.1≤(Get.rowS h.wr st).length∧p.2=(Hea.diff ((Get.rowS h.or_ st).take p.1) ((Get.rowS h.wr st).take p.1)).length∧(Hea.diff ((Get.rowS h.or_ st).take p.1) ((Get.rowS h.wr st).take p.1)).all (fun q=>Hea.q04 e q.1 q.2)=true)
  (fun st p=>(Get.rowS h.wr st).length-p.1),
 q9g 9]
def anMissH (h:Hf) (bk:List (Nat×Row)):List (Nat×Ann) :=
 [annX 0 Nat
  (fun st p=>st.hd { live:=[0,1,7],sav:=h.savW,box:=h.boxW } [(8,R.int .i64 p)] [] (h.rows bk st) [] none)
  (fun st p=>p≤(Get.rowS h.or_ st).length∧∀ i,i<p→((Get.rowS h.or_ st).eraseIdx i==Get.rowS h.wr st)=false)
  (fun st p=>(Get.rowS h.or_ st).length-p),
 q9g 4]
def anExchH (h:Hf) (bk:List (Nat×Row)):List (Nat×Ann) :=
 [annX 0 Nat
  (fun st p=>st.hd { live:=[0,1,9],sav:=h.savW,box:=h.boxW } [(10,R.int .i64 p)] [] (h.rows bk st) [] none)
  (fun st p=>p≤(Get.rowS h.or_ st).length-1∧∀ i,i<p→(Hea.q18 (Get.rowS h.or_ st) i==Get.rowS h.wr st&&(Get.rowS h.or_ st).getD i [] != (Get.rowS h.or_ st).getD (i+1) [])=false)
  (fun st p=>(Get.rowS h.or_ st).length-1-p),
 annX 2000006 Unit
  (fun st _=>st.hd { live:=[0,1,5,6,9,10],sav:=h.savW,box:=h.boxW } [] [] (((st.off+15)*1000,q5u (Hea.q18 (Get.rowS h.or_ st) (st.intOf 5).toNat))::h.rows bk st) [] none)
  (fun _ _=>True)
  (fun _ _=>0),
 q9g 6]
def anHe (h:Hf) (bk:List (Nat×Row)) (e:Cod.Ear) (book:q0d) (text:List UInt8):Nat→List (Nat×Ann):=fun f =>
 bif Nat.beq f 140 then anWords h text
 else bif Nat.beq f 50 then anListen
 else bif Nat.beq f 51 then anFindH h bk e book
 else bif Nat.beq f 145 then anIndexH h bk e
 else bif Nat.beq f 102 then anReplH h bk e
 else bif Nat.beq f 103 then anMissH h bk
 else bif Nat.beq f 104 then anExchH h bk
 else []
def hfHear:Hf:={ L:=22000,F:=30000,upL:=[(33,[2,4])],upF:=[],boxL:=[4] }
end Go.Proofs.YtfecgebhoondjaaGreatDoor
set_option linter.unusedVariables false
namespace Go.Proofs.YtfecgebhoondjaaGreatDoor
open Go.RowKit
open R
namespace Hea
theorem diff_snoc:∀ {a b:List Str} (x y:Str),a.length=b.length→diff (a++[x]) (b++[y])=diff a b++(if x==y then [] else [(x,y)])
 | [],[],x,y,_=>by
  show diff [x] [y]=_
  rw [diff]
  split <;> rfl
 | [],_::_,_,_,h=>by cases h
 | _::_,[],_,_,h=>by cases h
 | u::a,v::b,x,y,h=>by
  rw [List.cons_append,List.cons_append,diff,diff,diff_snoc x y (by simpa using h)]
  split
  ·rfl
  ·rfl
theorem diff_step {own words:List Str} {k:Nat} (h1:k<own.length) (h2:k<words.length):diff (own.take (k+1)) (words.take (k+1))=diff (own.take k) (words.take k)++(if own.getD k []==words.getD k [] then [] else [(own.getD k [],words.getD k [])]):=by
 rw [Snd.q1s own [] k h1,Snd.q1s words [] k h2,diff_snoc _ _ (by rw [List.length_take,List.length_take]; omega)]
theorem diff_mem {a b:List Str} {p:Str×Str}:∀ {k:Nat},p∈diff (a.take k) (b.take k)→p∈diff a b:=by
 intro k
 induction a generalizing b k with
 | nil=>intro h; rw [List.take_nil] at h; exact h
 | cons x a ih =>
  cases b with
  | nil=>intro h; rw [List.take_nil] at h; cases k <;> cases h
  | cons y b =>
   cases k with
   | zero=>intro h; cases h
   | succ k =>
    intro h
    rw [List.take_succ_cons,List.take_succ_cons,diff] at h
    rw [diff]
    split
    ·rename_i hxy
     rw [if_pos hxy] at h
     exact ih h
    ·rename_i hxy
     rw [if_neg hxy] at h
     rcases List.mem_cons.1 h with rfl | h
     ·exact List.mem_cons_self
     ·exact List.mem_cons_of_mem _ (ih h)
theorem diff_at {own words:List Str} {k:Nat} (h1:k<own.length) (h2:k<words.length) (hne:(words.getD k []==own.getD k [])=false):(own.getD k [],words.getD k [])∈diff own words:=by
 refine diff_mem (k:=k+1) ?_
 rw [diff_step h1 h2]
 refine List.mem_append_right _ ?_
 have:(own.getD k []==words.getD k [])=false:=by
  rw [beq_eq_false_iff_ne] at hne ⊢
  exact fun e=>hne e.symm
 rw [this]
 exact List.mem_singleton.2 rfl
theorem repl_part (e:Cod.Ear) (own words:List Str) {Y N:Prop} (hc:q0t e.c) (ho:∀ s∈own,s.length≤1000000) (hs:∀ s∈words,s.length≤1000000) (hw:words.length≤1000000) (hY:q2s (q04 e) own words=true→Y) (hN:q2s (q04 e) own words=false→N) :
  bif (own.length:Int) != (words.length:Int) then N else
   (∃ p':Nat×Nat,(p'.1≤words.length∧p'.2=(diff (own.take p'.1) (words.take p'.1)).length∧((diff (own.take p'.1) (words.take p'.1)).all fun q:Str×Str=>q04 e q.1 q.2)=true)∧(0:Int)=(p'.1:Int)∧(0:Int)=(p'.2:Int)) ∧
   ∀ p4:Nat×Nat,p4.1≤words.length∧p4.2=(diff (own.take p4.1) (words.take p4.1)).length∧((diff (own.take p4.1) (words.take p4.1)).all fun q:Str×Str=>q04 e q.1 q.2)=true →
    bif decide ((p4.1:Int)<(words.length:Int)) then
     ((0:Int)≤(p4.1:Int)∧(p4.1:Int)<(words.length:Int))∧((0:Int)≤(p4.1:Int)∧(p4.1:Int)<(own.length:Int)) ∧
     bif !(words.getD (p4.1:Int).toNat []==own.getD (p4.1:Int).toNat []) then
      ((-9223372036854775808:Int)≤(p4.2:Int)+1∧(p4.2:Int)+1≤(9223372036854775807:Int))∧((0:Int)≤(p4.1:Int)∧(p4.1:Int)<(own.length:Int)) ∧
      (q0t e.c∧(own.getD (p4.1:Int).toNat []).length≤(1000000:Nat)∧(words.getD (p4.1:Int).toNat []).length≤(1000000:Nat)) ∧
      bif !(Snd.q27 e.c (own.getD (p4.1:Int).toNat []) (words.getD (p4.1:Int).toNat [])) then N else
       ((-9223372036854775808:Int)≤(p4.1:Int)+1∧(p4.1:Int)+1≤(9223372036854775807:Int))∧∃ p':Nat×Nat,(p'.1≤words.length∧p'.2=(diff (own.take p'.1) (words.take p'.1)).length∧((diff (own.take p'.1) (words.take p'.1)).all fun q:Str×Str=>q04 e q.1 q.2)=true) ∧
        words.length-p'.1<words.length-p4.1∧(p4.1:Int)+1=(p'.1:Int)∧(p4.2:Int)+1=(p'.2:Int)
     else
      ((-9223372036854775808:Int)≤(p4.1:Int)+1∧(p4.1:Int)+1≤(9223372036854775807:Int))∧∃ p':Nat×Nat,(p'.1≤words.length∧p'.2=(diff (own.take p'.1) (words.take p'.1)).length∧((diff (own.take p'.1) (words.take p'.1)).all fun q:Str×Str=>q04 e q.1 q.2)=true) ∧
       words.length-p'.1<words.length-p4.1∧(p4.1:Int)+1=(p'.1:Int)∧(p4.2:Int)=(p'.2:Int)
    else bif (p4.2:Int)==(1:Int) then Y else N:=by
 refine bifP (fun hb=>hN ?_) fun hb=>?_
 ·unfold q2s
  have:(own.length==words.length)=false:=by
   rw [beq_eq_false_iff_ne]; rw [bne_iff_ne] at hb; omega
  rw [this,Bool.false_and]
 have hl:own.length=words.length:=by
  have:((own.length:Int)==(words.length:Int))=true:=by
   unfold bne at hb; simpa using hb
  have:=eq_of_beq this; omega
 refine ⟨⟨(0,0),⟨Nat.zero_le _,rfl,rfl⟩,rfl,rfl⟩,?_⟩
 rintro ⟨k,n⟩ ⟨hk,hn,ha⟩
 have hk:k≤words.length:=hk
 have hn:n=(diff (own.take k) (words.take k)).length:=hn
 have hti:((k:Int).toNat)=k:=rfl
 dsimp only
 rw [hti]
 refine bifP (fun hb=>?_) fun hb=>?_
 ·have hkw:k<words.length:=by have:=of_decide_eq_true hb; omega
  have hko:k<own.length:=by omega
  have hst:=diff_step hko hkw
  refine ⟨⟨by omega,by omega⟩,⟨by omega,by omega⟩,bifP (fun hb=>?_) fun hb=>?_⟩
  ·have hne:(words.getD k []==own.getD k [])=false:=by simpa using hb
   have hne2:(own.getD k []==words.getD k [])=false:=by
    rw [beq_eq_false_iff_ne] at hne ⊢
    exact fun e=>hne e.symm
   have hnk:n≤k:=by
    have h1:∀ (a b:List Str),(diff a b).length≤a.length:=by
     intro a
     induction a with
     | nil=>intro b; exact Nat.zero_le _
     | cons x a ih =>
      intro b
      cases b with
      | nil=>exact Nat.zero_le _
      | cons y b =>
       rw [diff]
       have:=ih b
       split <;> simp only [List.length_cons] <;> omega
    have h2:=h1 (own.take k) (words.take k)
    rw [List.length_take] at h2
    omega
   refine ⟨⟨by omega,by omega⟩,⟨by omega,by omega⟩,⟨hc,ho _ (Snd.q1v own [] k hko),hs _ (Snd.q1v words [] k hkw)⟩,bifP (fun hb=>hN ?_) fun hb=>⟨⟨by omega,by omega⟩,(k+1,n+1),⟨hkw,?_,?_⟩,?_,by push_cast; rfl,by push_cast; rfl⟩⟩
   ·have hna:Snd.q27 e.c (own.getD k []) (words.getD k [])=false:=by simpa using hb
    unfold q2s
    have:(diff own words).all (fun p=>q04 e p.1 p.2)=false:=by
     rw [List.all_eq_false]
     exact ⟨_,diff_at hko hkw hne,by show ¬ Snd.q27 e.c (own.getD k []) (words.getD k [])=true; rw [hna]; decide⟩
    rw [this,Bool.false_and,Bool.and_false]
   ·show n+1=_
    rw [hst,hne2,hn,List.length_append]; rfl
   ·rw [hst,hne2,List.all_append,ha]
    show (true&&(q04 e (own.getD k []) (words.getD k [])&&true))=true
    have:Snd.q27 e.c (own.getD k []) (words.getD k [])=true:=by simpa using hb
    show (true&&(Snd.q27 e.c (own.getD k []) (words.getD k [])&&true))=true
    rw [this]; rfl
   ·show words.length-(k+1)<words.length-k; omega
  ·have heq:(words.getD k []==own.getD k [])=true:=by simpa using hb
   have heq2:(own.getD k []==words.getD k [])=true:=by rw [beq_iff_eq] at heq ⊢; exact heq.symm
   refine ⟨⟨by omega,by omega⟩,(k+1,n),⟨hkw,?_,?_⟩,?_,by push_cast; rfl,rfl⟩
   ·show n=_
    rw [hst,heq2,hn,if_pos rfl,List.append_nil]
   ·rw [hst,heq2,if_pos rfl,List.append_nil]; exact ha
   ·show words.length-(k+1)<words.length-k; omega
 ·have hle:words.length≤k:=by have:=of_decide_eq_false hb; omega
  rw [List.take_of_length_le (show own.length≤k by omega),List.take_of_length_le hle] at hn ha
  have hv:q2s (q04 e) own words=(n==1):=by
   unfold q2s
   rw [hl,beq_self_eq_true,Bool.true_and,hn]
   show ((diff own words).all (fun p=>q04 e p.1 p.2)&&_)=_
   rw [show (diff own words).all (fun p=>q04 e p.1 p.2)=true from ha,Bool.true_and]
  refine bifP (fun hb=>hY ?_) fun hb=>hN ?_
  ·rw [hv]; have:=eq_of_beq hb; rw [beq_iff_eq]; omega
  ·rw [hv]; rw [beq_eq_false_iff_ne] at hb ⊢; omega
theorem miss_part (own words:List Str) {Y N:Prop} (hl:own.length≤1000000) (hw:words.length≤1000000) (hY:q38 own words=true→Y) (hN:q38 own words=false→N) :
  (∃ p':Nat,(p'≤own.length∧∀ i:Nat,i<p'→(own.eraseIdx i==words)=false)∧(0:Int)=(p':Int)) ∧
  ∀ p4:Nat,(p4≤own.length∧∀ i:Nat,i<p4→(own.eraseIdx i==words)=false) →
   bif decide ((p4:Int)<(own.length:Int)) then
    ((-9223372036854775808:Int)≤(p4:Int)+1∧(p4:Int)+1≤(9223372036854775807:Int))∧(own.length≤(1000000:Nat)∧(((0:Int)≤(p4:Int)∧(p4:Int)<(own.length:Int))∧((own.eraseIdx (p4:Int).toNat).length≤(1000000:Nat)∧words.length≤(1000000:Nat)) ∧
     bif own.eraseIdx (p4:Int).toNat==words then Y else
      ((-9223372036854775808:Int)≤(p4:Int)+1∧(p4:Int)+1≤(9223372036854775807:Int))∧∃ p':Nat,(p'≤own.length∧∀ i:Nat,i<p'→(own.eraseIdx i==words)=false)∧own.length-p'<own.length-p4∧(p4:Int)+1=(p':Int)) ∧
     ((0:Int)≤(p4:Int)∧(p4:Int)<(own.length:Int))∧((own.eraseIdx (p4:Int).toNat).length≤(1000000:Nat)∧words.length≤(1000000:Nat)) ∧
     bif own.eraseIdx (p4:Int).toNat==words then Y else
      ((-9223372036854775808:Int)≤(p4:Int)+1∧(p4:Int)+1≤(9223372036854775807:Int))∧∃ p':Nat,(p'≤own.length∧∀ i:Nat,i<p'→(own.eraseIdx i==words)=false)∧own.length-p'<own.length-p4∧(p4:Int)+1=(p':Int)) ∧
    own.length≤(1000000:Nat)∧((0:Int)≤(p4:Int)∧(p4:Int)<(own.length:Int))∧((own.eraseIdx (p4:Int).toNat).length≤(1000000:Nat)∧words.length≤(1000000:Nat)) ∧
     bif own.eraseIdx (p4:Int).toNat==words then Y else
      ((-9223372036854775808:Int)≤(p4:Int)+1∧(p4:Int)+1≤(9223372036854775807:Int))∧∃ p':Nat,(p'≤own.length∧∀ i:Nat,i<p'→(own.eraseIdx i==words)=false)∧own.length-p'<own.length-p4∧(p4:Int)+1=(p':Int)
   else N:=by
 refine ⟨⟨0,⟨Nat.zero_le _,fun i h=>absurd h (Nat.not_lt_zero _)⟩,rfl⟩,?_⟩
 rintro k ⟨hk,hno⟩
 have hti:((k:Int).toNat)=k:=rfl
 rw [hti]
 refine bifP (fun hb=>?_) fun hb=>hN ?_
 ·have hlt:k<own.length:=by have:=of_decide_eq_true hb; omega
  have he:(own.eraseIdx k).length≤1000000:=by rw [List.length_eraseIdx_of_lt hlt]; omega
  have hg:bif own.eraseIdx k==words then Y else
    ((-9223372036854775808:Int)≤(k:Int)+1∧(k:Int)+1≤(9223372036854775807:Int))∧∃ p':Nat,(p'≤own.length∧∀ i:Nat,i<p'→(own.eraseIdx i==words)=false)∧own.length-p'<own.length-k∧(k:Int)+1=(p':Int):=by
   refine bifP (fun hb=>hY ?_) fun hb=>⟨⟨by omega,by omega⟩,k+1,⟨hlt,fun i hi=>?_⟩,by omega,by push_cast; rfl⟩
   ·unfold q38
    exact List.any_eq_true.2 ⟨k,List.mem_range.2 hlt,hb⟩
   ·by_cases h:i=k
    ·rw [h]; exact hb
    ·exact hno i (by omega)
  exact ⟨⟨by omega,by omega⟩,⟨hl,⟨⟨by omega,by omega⟩,⟨he,hw⟩,hg⟩,⟨by omega,by omega⟩,⟨he,hw⟩,hg⟩,hl,⟨by omega,by omega⟩,⟨he,hw⟩,hg⟩
 ·have hle:own.length≤k:=by have:=of_decide_eq_false hb; omega
  unfold q38
  rw [List.any_eq_false]
  intro i hi
  rw [hno i (by have:=List.mem_range.1 hi; omega)]
  decide
theorem swap_len_ (own:List Str) (i:Nat):(q18 own i).length=own.length:=by unfold q18; rw [List.length_set,List.length_set]
theorem exch_part (own words:List Str) {Y N:Prop} (hl:own.length≤1000000) (hw:words.length≤1000000) (hY:q37 own words=true→Y) (hN:q37 own words=false→N) :
  ((-9223372036854775808:Int)≤(own.length:Int)-1∧(own.length:Int)-1≤(9223372036854775807:Int)) ∧
  (∃ p':Nat,(p'≤own.length-1∧∀ i:Nat,i<p'→(q18 own i==words&&own.getD i [] != own.getD (i+1) [])=false)∧(0:Int)=(p':Int)) ∧
  ∀ p4:Nat,(p4≤own.length-1∧∀ i:Nat,i<p4→(q18 own i==words&&own.getD i [] != own.getD (i+1) [])=false) →
   bif decide ((p4:Int)<(own.length:Int)-1) then
    own.length≤(1000000:Nat) ∧
    (((-9223372036854775808:Int)≤(p4:Int)+1∧(p4:Int)+1≤(9223372036854775807:Int))∧((0:Int)≤(p4:Int)+1∧(p4:Int)+1<(own.length:Int))∧((0:Int)≤(p4:Int)∧(p4:Int)<(own.length:Int))∧((0:Int)≤(p4:Int)∧(p4:Int)<(own.length:Int)) ∧
     ((-9223372036854775808:Int)≤(p4:Int)+1∧(p4:Int)+1≤(9223372036854775807:Int)) ∧
     bif (p4:Int).toNat.beq (p4:Int).toNat then
      ((0:Int)≤(p4:Int)+1∧(p4:Int)+1<((own.set (p4:Int).toNat (own.getD ((p4:Int)+1).toNat [])).length:Int)) ∧
      bif ((p4:Int)+1).toNat.beq ((p4:Int)+1).toNat then
       ∃ p':Unit,(own.set (p4:Int).toNat (own.getD ((p4:Int)+1).toNat [])).set ((p4:Int)+1).toNat (own.getD (p4:Int).toNat [])=q18 own (p4:Int).toNat
      else False
     else False) ∧
    ∀ p5:Unit,True →
     ((q18 own (p4:Int).toNat).length≤(1000000:Nat)∧words.length≤(1000000:Nat)) ∧
     bif q18 own (p4:Int).toNat==words then
      ((0:Int)≤(p4:Int)∧(p4:Int)<(own.length:Int))∧((-9223372036854775808:Int)≤(p4:Int)+1∧(p4:Int)+1≤(9223372036854775807:Int))∧((0:Int)≤(p4:Int)+1∧(p4:Int)+1<(own.length:Int)) ∧
      bif !(own.getD (p4:Int).toNat []==own.getD ((p4:Int)+1).toNat []) then Y else
       ((-9223372036854775808:Int)≤(p4:Int)+1∧(p4:Int)+1≤(9223372036854775807:Int))∧∃ p':Nat,(p'≤own.length-1∧∀ i:Nat,i<p'→(q18 own i==words&&own.getD i [] != own.getD (i+1) [])=false)∧own.length-1-p'<own.length-1-p4∧(p4:Int)+1=(p':Int)
     else
      ((-9223372036854775808:Int)≤(p4:Int)+1∧(p4:Int)+1≤(9223372036854775807:Int))∧∃ p':Nat,(p'≤own.length-1∧∀ i:Nat,i<p'→(q18 own i==words&&own.getD i [] != own.getD (i+1) [])=false)∧own.length-1-p'<own.length-1-p4∧(p4:Int)+1=(p':Int)
   else N:=by
 refine ⟨⟨by omega,by omega⟩,⟨0,⟨Nat.zero_le _,fun i h=>absurd h (Nat.not_lt_zero _)⟩,rfl⟩,?_⟩
 rintro k ⟨hk,hno⟩
 have hti:((k:Int).toNat)=k:=rfl
 have hti1:(((k:Int)+1).toNat)=k+1:=by omega
 rw [hti,hti1]
 refine bifP (fun hb=>?_) fun hb=>hN ?_
 ·have hlt:k+1<own.length:=by have:=of_decide_eq_true hb; omega
  have hnext:(q18 own k==words&&own.getD k [] != own.getD (k+1) [])=false→((-9223372036854775808:Int)≤(k:Int)+1∧(k:Int)+1≤(9223372036854775807:Int))∧∃ p':Nat,(p'≤own.length-1∧∀ i:Nat,i<p'→(q18 own i==words&&own.getD i [] != own.getD (i+1) [])=false)∧own.length-1-p'<own.length-1-k∧(k:Int)+1=(p':Int):=fun hf=>by
   refine ⟨⟨by omega,by omega⟩,k+1,⟨by omega,fun i hi=>?_⟩,by omega,by push_cast; rfl⟩
   by_cases h:i=k
   ·rw [h]; exact hf
   ·exact hno i (by omega)
  have hbq:∀ n:Nat,n.beq n=true:=fun n=>Nat.beq_refl n
  refine ⟨hl,⟨⟨by omega,by omega⟩,⟨by omega,by omega⟩,⟨by omega,by omega⟩,⟨by omega,by omega⟩,⟨by omega,by omega⟩,?_⟩,fun _ _=>⟨⟨by rw [swap_len_]; exact hl,hw⟩,bifP (fun hb=>?_) fun hb=>hnext (by rw [hb]; rfl)⟩⟩
  ·rw [hbq,cond_true,hbq,cond_true,List.length_set]
   exact ⟨⟨by omega,by omega⟩,(),rfl⟩
  ·refine ⟨⟨by omega,by omega⟩,⟨by omega,by omega⟩,⟨by omega,by omega⟩,bifP (fun hb2=>hY ?_) fun hb2=>hnext ?_⟩
   ·unfold q37
    exact List.any_eq_true.2 ⟨k,List.mem_range.2 (by omega),by rw [hb,Bool.true_and]; exact hb2⟩
   ·rw [hb,Bool.true_and]; exact hb2
 ·have hle:own.length≤k+1:=by have:=of_decide_eq_false hb; omega
  unfold q37
  rw [List.any_eq_false]
  intro i hi
  rw [hno i (by have:=List.mem_range.1 hi; omega)]
  decide
theorem cut_eq:∀ s:Str,cutW s=if 0≤Lib.indexByte s 32 then (cutF s).1::cutW (cutF s).2.1 else [s]
 | []=>rfl
 | c::r=>by
  have ih:=cut_eq r
  have hge:=Lib.indexByte_ge r 32
  by_cases hc:(c==32)=true
  ·have hi:Lib.indexByte (c::r) 32=0:=by unfold Lib.indexByte; rw [if_pos hc]
   have hf:cutF (c::r)=([],r,true):=by unfold cutF; rw [hi]; rfl
   rw [cutW,if_pos hc,hi,if_pos (Int.le_refl 0),hf]
  ·have hi:Lib.indexByte (c::r) 32=if Lib.indexByte r 32==-1 then -1 else Lib.indexByte r 32+1:=by
    conv=>lhs; unfold Lib.indexByte
    rw [if_neg hc]
   rw [cutW,if_neg hc,ih]
   by_cases h0:0≤Lib.indexByte r 32
   ·have hb:(Lib.indexByte r 32==-1)=false:=by rw [beq_eq_false_iff_ne]; omega
    rw [hb,if_neg (by decide)] at hi
    rw [if_pos h0,hi,if_pos (by omega)]
    obtain ⟨n,hn⟩:=Int.eq_ofNat_of_zero_le h0
    unfold cutF
    rw [hi,if_pos h0,if_pos (by omega),hn]
    dsimp only
    rw [show ((n:Int)+1).toNat=n+1 by omega,show ((n:Int)).toNat=n by omega,List.take_succ_cons,List.drop_succ_cons]
   ·have hm:Lib.indexByte r 32=-1:=by omega
    rw [hm] at hi
    rw [if_neg h0,hi]
    rfl
theorem lis_step {text rest:Str} {w:List Str} (h:q3x text true rest w) (h1:q6o (cutF rest).1=true) (h5:w.length<5):q3x text (cutF rest).2.2 (cutF rest).2.1 (w++[(cutF rest).1]):=by
 obtain ⟨hc,ha,hl,hr⟩:=h
 rw [if_pos rfl,cut_eq rest] at hc
 refine ⟨?_,by rw [List.all_append,ha,List.all_cons,h1]; rfl,by rw [List.length_append,List.length_singleton]; omega,?_⟩
 ·by_cases h0:0≤Lib.indexByte rest 32
  ·rw [if_pos h0] at hc
   rw [show (cutF rest).2.2=true by unfold cutF; rw [if_pos h0],if_pos rfl,hc,List.append_assoc]; rfl
  ·rw [if_neg h0] at hc
   rw [show (cutF rest).2.2=false by unfold cutF; rw [if_neg h0],if_neg (by decide),hc,show (cutF rest).1=rest by unfold cutF; rw [if_neg h0]]
 ·refine Nat.le_trans ?_ hr
  unfold cutF
  split
  ·dsimp only; rw [List.length_drop]; omega
  ·exact Nat.zero_le _
theorem lis_less {rest:Str}:(if (cutF rest).2.2=true then (cutF rest).2.1.length+1 else 0)<rest.length+1:=by
 unfold cutF
 by_cases h0:0≤Lib.indexByte rest 32
 ·rw [if_pos h0]
  dsimp only
  rw [if_pos rfl,List.length_drop]
  obtain ⟨n,hn⟩:=Int.eq_ofNat_of_zero_le h0
  have h3:=(Lib.indexByte_some hn).1
  have h4:n<rest.length:=(List.getElem?_eq_some_iff.1 h3).1
  omega
 ·rw [if_neg h0]
  dsimp only
  rw [if_neg (by decide)]; omega
theorem lis_bad {text rest:Str} {w:List Str} (h:q3x text true rest w) (h1:q6o (cutF rest).1=false∨w.length=5):q6n text=none:=by
 obtain ⟨hc,ha,hl,hr⟩:=h
 rw [if_pos rfl,cut_eq rest] at hc
 unfold q6n
 rw [if_neg]
 rw [Bool.and_eq_true,decide_eq_true_eq]
 rintro ⟨q1,q2⟩
 by_cases h0:0≤Lib.indexByte rest 32
 ·rw [if_pos h0] at hc
  rw [hc] at q1 q2
  rw [List.all_append,List.all_cons,Bool.and_eq_true,Bool.and_eq_true] at q1
  rw [List.length_append,List.length_cons] at q2
  rcases h1 with h1 | h1
  ·rw [h1] at q1; exact absurd q1.2.1 (by decide)
  ·omega
 ·rw [if_neg h0] at hc
  have hf:(cutF rest).1=rest:=by unfold cutF; rw [if_neg h0]
  rw [hc] at q1 q2
  rw [List.all_append,List.all_cons,Bool.and_eq_true,Bool.and_eq_true] at q1
  rw [List.length_append,List.length_cons] at q2
  rcases h1 with h1 | h1
  ·rw [hf] at h1; rw [h1] at q1; exact absurd q1.2.1 (by decide)
  ·omega
theorem lis_end {text rest:Str} {w:List Str} (h:q3x text false rest w):q6n text=some w:=by
 obtain ⟨hc,ha,hl,hr⟩:=h
 rw [if_neg (by decide)] at hc
 unfold q6n
 rw [hc,ha,decide_eq_true hl]; rfl
theorem word_of {s:Str} (h1:(s.any fun c=>!Snd.letB c)=false) (h2:(s==[])=false) (h3:¬ (12:Int)<(s.length:Int)):q6o s=true:=by
 unfold q6o
 simp only [Bool.and_eq_true,decide_eq_true_eq,Bool.not_eq_true',List.isEmpty_eq_false_iff]
 refine ⟨by rw [beq_eq_false_iff_ne] at h2; exact h2,by omega,?_⟩
 rw [List.all_eq_true]
 intro c hc
 rw [List.any_eq_false] at h1
 have:=h1 c hc
 unfold Snd.letB at this
 simpa using this
theorem q8e {s:Str} (h:(s.any fun c=>!Snd.letB c)=true∨(s==[])=true∨(12:Int)<(s.length:Int)):q6o s=false:=by
 rw [← Bool.not_eq_true]
 unfold q6o
 simp only [Bool.and_eq_true,decide_eq_true_eq,Bool.not_eq_true',List.isEmpty_eq_false_iff]
 rintro ⟨h1,h2,h3⟩
 rcases h with h | h | h
 ·obtain ⟨c,hc,hn⟩:=List.any_eq_true.1 h
  rw [List.all_eq_true] at h3
  have:=h3 c hc
  unfold Snd.letB at hn
  rw [Bool.not_eq_true',Bool.and_eq_false_iff,decide_eq_false_iff_not,decide_eq_false_iff_not] at hn
  simp only [Bool.and_eq_true,decide_eq_true_eq] at this
  omega
 ·exact h1 (eq_of_beq h)
 ·omega
end Hea
end Go.Proofs.YtfecgebhoondjaaGreatDoor
set_option linter.unusedVariables false
namespace Go.Proofs.YtfecgebhoondjaaGreatDoor
open Go.RowKit
open R
theorem ownH_snoc (ws:List (List UInt8)) (code:List Int) (k:Nat) (hk:k<code.length):Hea.ownW ws (code.take k)++[ws.getD (code.getD k 0).toNat []]=Hea.ownW ws (code.take (k+1)):=by
 rw [Snd.q1s code 0 k hk]
 unfold Hea.ownW
 rw [List.map_append]; rfl
theorem ownH_long (ws:List (List UInt8)) (h:∀ s∈ws,s.length≤1000000) (code:List Int):∀ s∈Hea.ownW ws code,s.length≤1000000:=by
 intro s hs
 obtain ⟨i,_,rfl⟩:=List.mem_map.1 hs
 by_cases hi:i.toNat<ws.length
 ·exact h _ (Snd.q1v ws [] _ hi)
 ·rw [List.getD_eq_getElem?_getD,List.getElem?_eq_none (by omega)]; exact Nat.zero_le _
set_option maxRecDepth 100000 in
theorem qie (e:Cod.Ear) (book:q0d) (w:List (List UInt8)) (R:List UInt8×Bool×Int) (m:Nat) (hm:m=3) (hp:e.proper book=true) (hC:q0t e.c) (hW:∀ s∈e.ws,s.length≤1000000) (hw:w.length≤5) (hwl:∀ s∈w,s.length≤1000000) (hB:book.length≤1000000) (hR:R=Hea.q0f (Hea.q04 e) e.ws w book []) :
  (∃ (p':Nat×List (List UInt8)),(p'.1≤List.length book∧p'.2.length≤p'.1∧Hea.q0f (Hea.q04 e) e.ws w book []=Hea.q0f (Hea.q04 e) e.ws w (List.drop p'.1 book) p'.2)∧(0
  : Int)=(p'.1:Int)∧p'.2=[])∧∀ (p_1:Nat×List (List UInt8)),p_1.1≤List.length book∧p_1.2.length≤p_1.1∧Hea.q0f (Hea.q04 e) e.ws w book []=Hea.q0f (Hea.q04 e)
  e.ws w (List.drop p_1.1 book) p_1.2→bif decide ((p_1.1:Int)<(↑(List.length book):Int)) then ((0:Int)≤(p_1.1:Int)∧(p_1.1:Int)<(↑(List.length book):Int))∧(∃ (p' :
  Nat×List (List UInt8)),(p'.1≤(List.getD book (p_1.1:Int).toNat Cod.noG).2.1.length∧p'.2=Hea.ownW e.ws (List.take p'.1 (List.getD book (p_1.1:Int).toNat Cod.noG).2.1))∧(0 :
  Int)=(p'.1:Int)∧p'.2=[])∧∀ (p_2:Nat×List (List UInt8)),p_2.1≤(List.getD book (p_1.1:Int).toNat Cod.noG).2.1.length∧p_2.2=Hea.ownW e.ws (List.take p_2.1 (List.getD
  book (p_1.1:Int).toNat Cod.noG).2.1)→bif decide ((p_2.1:Int)<(↑(List.getD book (p_1.1:Int).toNat Cod.noG).2.1.length:Int)) then ((0:Int)≤(p_2.1:Int)∧(p_2.1:Int) <
  (↑(List.getD book (p_1.1:Int).toNat Cod.noG).2.1.length:Int))∧((0:Int)≤(List.getD book (p_1.1:Int).toNat Cod.noG).2.1.getD (p_2.1:Int).toNat (0:Int)∧(List.getD book
  (p_1.1:Int).toNat Cod.noG).2.1.getD (p_2.1:Int).toNat (0:Int)<(e.ws.length:Int))∧(p_2.2.length+[e.ws.getD ((List.getD book (p_1.1:Int).toNat Cod.noG).2.1.getD (↑p_2.1 :
  Int).toNat (0:Int)).toNat []].length)*(16:Nat)≤(140737488355328:Nat)∧((-9223372036854775808:Int)≤(p_2.1:Int)+(1:Int)∧(p_2.1:Int)+(1:Int) ≤
  (9223372036854775807:Int))∧∃ (p':Nat×List (List UInt8)),(p'.1≤(List.getD book (p_1.1:Int).toNat Cod.noG).2.1.length∧p'.2=Hea.ownW e.ws (List.take p'.1 (List.getD book
  (p_1.1:Int).toNat Cod.noG).2.1))∧(List.getD book (p_1.1:Int).toNat Cod.noG).2.1.length-p'.1<(List.getD book (p_1.1:Int).toNat Cod.noG).2.1.length-p_2.1∧(p_2.1:Int)+(1
  : Int)=(p'.1:Int)∧p_2.2++[e.ws.getD ((List.getD book (p_1.1:Int).toNat Cod.noG).2.1.getD (p_2.1:Int).toNat (0:Int)).toNat []]=p'.2 else (p_2.2.length≤(1000000:Nat) ∧
  w.length≤(1000000:Nat))∧bif p_2.2==w then ((List.getD book (p_1.1:Int).toNat Cod.noG).1,false,(0:Int))=R else (∃ (p':Nat),(p'≤(3:Nat)∧((1:Nat)≤p'→Hea.q2s
  (Hea.q04 e) p_2.2 w=false)∧((2:Nat)≤p'→Hea.q38 p_2.2 w=false)∧((3:Nat)≤p'→Hea.q37 p_2.2 w=false))∧(0:Int)=(p':Int))∧∀ (p_3:Nat),p_3≤(3:Nat) ∧
  ((1:Nat)≤p_3→Hea.q2s (Hea.q04 e) p_2.2 w=false)∧((2:Nat)≤p_3→Hea.q38 p_2.2 w=false)∧((3:Nat)≤p_3→Hea.q37 p_2.2 w=false)→bif decide ((p_3:Int)<(↑m
  : Int)) then ((0:Int)≤(p_3:Int)∧(p_3:Int)<(m:Int))∧((p_3:Int)=(0:Int)→bif (p_2.2.length:Int) != (w.length:Int) then ((-9223372036854775808:Int)≤(↑p_3 :
  Int)+(1:Int)∧(p_3:Int)+(1:Int)≤(9223372036854775807:Int))∧∃ (p':Nat),(p'≤(3:Nat)∧((1:Nat)≤p'→Hea.q2s (Hea.q04 e) p_2.2 w=false)∧((2:Nat)≤p' →
  Hea.q38 p_2.2 w=false)∧((3:Nat)≤p'→Hea.q37 p_2.2 w=false))∧(3:Nat)-p'<(3:Nat)-p_3∧(p_3:Int)+(1:Int)=(p':Int) else (∃ (p':Nat×Nat),(p'.1 ≤
  w.length∧p'.2=(Hea.diff (List.take p'.1 p_2.2) (List.take p'.1 w)).length∧((Hea.diff (List.take p'.1 p_2.2) (List.take p'.1 w)).all fun (q:Hea.Str×Hea.Str)=>Hea.q04 e q.1 q.2)
  = true)∧(0:Int)=(p'.1:Int)∧(0:Int)=(p'.2:Int))∧∀ (p_4:Nat×Nat),p_4.1≤w.length∧p_4.2=(Hea.diff (List.take p_4.1 p_2.2) (List.take p_4.1 w)).length∧((Hea.diff
  (List.take p_4.1 p_2.2) (List.take p_4.1 w)).all fun (q:Hea.Str×Hea.Str)=>Hea.q04 e q.1 q.2)=true→bif decide ((p_4.1:Int)<(w.length:Int)) then ((0:Int)≤(↑p_4.1 :
  Int)∧(p_4.1:Int)<(w.length:Int))∧((0:Int)≤(p_4.1:Int)∧(p_4.1:Int)<(p_2.2.length:Int))∧bif !w.getD (p_4.1:Int).toNat []==p_2.2.getD (p_4.1:Int).toNat []
  then ((-9223372036854775808:Int)≤(p_4.2:Int)+(1:Int)∧(p_4.2:Int)+(1:Int)≤(9223372036854775807:Int))∧((0:Int)≤(p_4.1:Int)∧(p_4.1:Int)<(↑p_2.2.length :
  Int))∧(q0t e.c∧(p_2.2.getD (p_4.1:Int).toNat []).length≤(1000000:Nat)∧(w.getD (p_4.1:Int).toNat []).length≤(1000000:Nat))∧bif !Snd.q27 e.c (p_2.2.getD (↑p_4.1 :
  Int).toNat []) (w.getD (p_4.1:Int).toNat []) then ((-9223372036854775808:Int)≤(p_3:Int)+(1:Int)∧(p_3:Int)+(1:Int)≤(9223372036854775807:Int))∧∃ (p':Nat),(p' ≤
  (3:Nat)∧((1:Nat)≤p'→Hea.q2s (Hea.q04 e) p_2.2 w=false)∧((2:Nat)≤p'→Hea.q38 p_2.2 w=false)∧((3:Nat)≤p'→Hea.q37 p_2.2 w=false))∧(3:Nat)-p'<(3 :
  Nat)-p_3∧(p_3:Int)+(1:Int)=(p':Int) else ((-9223372036854775808:Int)≤(p_4.1:Int)+(1:Int)∧(p_4.1:Int)+(1:Int)≤(9223372036854775807:Int))∧∃ (p':Nat
  × Nat),(p'.1≤w.length∧p'.2=(Hea.diff (List.take p'.1 p_2.2) (List.take p'.1 w)).length∧((Hea.diff (List.take p'.1 p_2.2) (List.take p'.1 w)).all fun (q:Hea.Str×Hea.Str) =>
  Hea.q04 e q.1 q.2)=true)∧w.length-p'.1<w.length-p_4.1∧(p_4.1:Int)+(1:Int)=(p'.1:Int)∧(p_4.2:Int)+(1:Int)=(p'.2:Int) else ((-9223372036854775808 :
  Int)≤(p_4.1:Int)+(1:Int)∧(p_4.1:Int)+(1:Int)≤(9223372036854775807:Int))∧∃ (p':Nat×Nat),(p'.1≤w.length∧p'.2=(Hea.diff (List.take p'.1 p_2.2) (List.take p'.1
  w)).length∧((Hea.diff (List.take p'.1 p_2.2) (List.take p'.1 w)).all fun (q:Hea.Str×Hea.Str)=>Hea.q04 e q.1 q.2)=true)∧w.length-p'.1<w.length-p_4.1∧(p_4.1:Int)+(1
  : Int)=(p'.1:Int)∧(p_4.2:Int)=(p'.2:Int) else bif (p_4.2:Int)==(1:Int) then (p_1.2.length+[(List.getD book (p_1.1:Int).toNat Cod.noG).1].length)*(16:Nat) ≤
  (140737488355328:Nat)∧((-9223372036854775808:Int)≤(p_1.1:Int)+(1:Int)∧(p_1.1:Int)+(1:Int)≤(9223372036854775807:Int))∧∃ (p':Nat×List (List UInt8)),(p'.1 ≤
  List.length book∧p'.2.length≤p'.1∧Hea.q0f (Hea.q04 e) e.ws w book []=Hea.q0f (Hea.q04 e) e.ws w (List.drop p'.1 book) p'.2)∧List.length book-p'.1<List.length book -
  p_1.1∧(p_1.1:Int)+(1:Int)=(p'.1:Int)∧p_1.2++[(List.getD book (p_1.1:Int).toNat Cod.noG).1]=p'.2 else ((-9223372036854775808:Int)≤(p_3:Int)+(1:Int)∧(↑p_3 :
  Int)+(1:Int)≤(9223372036854775807:Int))∧∃ (p':Nat),(p'≤(3:Nat)∧((1:Nat)≤p'→Hea.q2s (Hea.q04 e) p_2.2 w=false)∧((2:Nat)≤p'→Hea.q38 p_2.2 w=false) ∧
  ((3:Nat)≤p'→Hea.q37 p_2.2 w=false))∧(3:Nat)-p'<(3:Nat)-p_3∧(p_3:Int)+(1:Int)=(p':Int))∧((p_3:Int)=(1:Int)→(∃ (p':Nat),(p'≤p_2.2.length∧∀
  (i:Nat),i<p'→(p_2.2.eraseIdx i==w)=false)∧(0:Int)=(p':Int))∧∀ (p_4:Nat),(p_4≤p_2.2.length∧∀ (i:Nat),i<p_4→(p_2.2.eraseIdx i==w)=false)→bif decide
  ((p_4:Int)<(p_2.2.length:Int)) then ((-9223372036854775808:Int)≤(p_4:Int)+(1:Int)∧(p_4:Int)+(1:Int)≤(9223372036854775807:Int))∧(p_2.2.length≤(1000000 :
  Nat)∧(((0:Int)≤(p_4:Int)∧(p_4:Int)<(p_2.2.length:Int))∧((p_2.2.eraseIdx (p_4:Int).toNat).length≤(1000000:Nat)∧w.length≤(1000000:Nat))∧bif p_2.2.eraseIdx
  (p_4:Int).toNat==w then (p_1.2.length+[(List.getD book (p_1.1:Int).toNat Cod.noG).1].length)*(16:Nat)≤(140737488355328:Nat)∧((-9223372036854775808:Int)≤(p_1.1:Int)
  + (1:Int)∧(p_1.1:Int)+(1:Int)≤(9223372036854775807:Int))∧∃ (p':Nat×List (List UInt8)),(p'.1≤List.length book∧p'.2.length≤p'.1∧Hea.q0f (Hea.q04 e) e.ws w
  book []=Hea.q0f (Hea.q04 e) e.ws w (List.drop p'.1 book) p'.2)∧List.length book-p'.1<List.length book-p_1.1∧(p_1.1:Int)+(1:Int)=(p'.1:Int)∧p_1.2++[(List.getD
  book (p_1.1:Int).toNat Cod.noG).1]=p'.2 else ((-9223372036854775808:Int)≤(p_4:Int)+(1:Int)∧(p_4:Int)+(1:Int)≤(9223372036854775807:Int))∧∃ (p':Nat),(p' ≤
  p_2.2.length∧∀ (i:Nat),i<p'→(p_2.2.eraseIdx i==w)=false)∧p_2.2.length-p'<p_2.2.length-p_4∧(p_4:Int)+(1:Int)=(p':Int))∧((0:Int)≤(p_4:Int)∧(↑p_4 :
  Int)<(p_2.2.length:Int))∧((p_2.2.eraseIdx (p_4:Int).toNat).length≤(1000000:Nat)∧w.length≤(1000000:Nat))∧bif p_2.2.eraseIdx (p_4:Int).toNat==w then (p_1.2.length +
  [(List.getD book (p_1.1:Int).toNat Cod.noG).1].length)*(16:Nat)≤(140737488355328:Nat)∧((-9223372036854775808:Int)≤(p_1.1:Int)+(1:Int)∧(p_1.1:Int)+(1:Int) ≤
  (9223372036854775807:Int))∧∃ (p':Nat×List (List UInt8)),(p'.1≤List.length book∧p'.2.length≤p'.1∧Hea.q0f (Hea.q04 e) e.ws w book []=Hea.q0f (Hea.q04 e) e.ws w
  (List.drop p'.1 book) p'.2)∧List.length book-p'.1<List.length book-p_1.1∧(p_1.1:Int)+(1:Int)=(p'.1:Int)∧p_1.2++[(List.getD book (p_1.1:Int).toNat Cod.noG).1] =
  p'.2 else ((-9223372036854775808:Int)≤(p_4:Int)+(1:Int)∧(p_4:Int)+(1:Int)≤(9223372036854775807:Int))∧∃ (p':Nat),(p'≤p_2.2.length∧∀ (i:Nat),i<p' →
  (p_2.2.eraseIdx i==w)=false)∧p_2.2.length-p'<p_2.2.length-p_4∧(p_4:Int)+(1:Int)=(p':Int))∧p_2.2.length≤(1000000:Nat)∧((0:Int)≤(p_4:Int)∧(↑p_4 :
  Int)<(p_2.2.length:Int))∧((p_2.2.eraseIdx (p_4:Int).toNat).length≤(1000000:Nat)∧w.length≤(1000000:Nat))∧bif p_2.2.eraseIdx (p_4:Int).toNat==w then (p_1.2.length +
  [(List.getD book (p_1.1:Int).toNat Cod.noG).1].length)*(16:Nat)≤(140737488355328:Nat)∧((-9223372036854775808:Int)≤(p_1.1:Int)+(1:Int)∧(p_1.1:Int)+(1:Int) ≤
  (9223372036854775807:Int))∧∃ (p':Nat×List (List UInt8)),(p'.1≤List.length book∧p'.2.length≤p'.1∧Hea.q0f (Hea.q04 e) e.ws w book []=Hea.q0f (Hea.q04 e) e.ws w
  (List.drop p'.1 book) p'.2)∧List.length book-p'.1<List.length book-p_1.1∧(p_1.1:Int)+(1:Int)=(p'.1:Int)∧p_1.2++[(List.getD book (p_1.1:Int).toNat Cod.noG).1] =
  p'.2 else ((-9223372036854775808:Int)≤(p_4:Int)+(1:Int)∧(p_4:Int)+(1:Int)≤(9223372036854775807:Int))∧∃ (p':Nat),(p'≤p_2.2.length∧∀ (i:Nat),i<p' →
  (p_2.2.eraseIdx i==w)=false)∧p_2.2.length-p'<p_2.2.length-p_4∧(p_4:Int)+(1:Int)=(p':Int) else ((-9223372036854775808:Int)≤(p_3:Int)+(1:Int)∧(↑p_3 :
  Int)+(1:Int)≤(9223372036854775807:Int))∧∃ (p':Nat),(p'≤(3:Nat)∧((1:Nat)≤p'→Hea.q2s (Hea.q04 e) p_2.2 w=false)∧((2:Nat)≤p'→Hea.q38 p_2.2 w=false) ∧
  ((3:Nat)≤p'→Hea.q37 p_2.2 w=false))∧(3:Nat)-p'<(3:Nat)-p_3∧(p_3:Int)+(1:Int)=(p':Int))∧((p_3:Int)=(2:Int)→((-9223372036854775808:Int) ≤
  (p_2.2.length:Int)-(1:Int)∧(p_2.2.length:Int)-(1:Int)≤(9223372036854775807:Int))∧(∃ (p':Nat),(p'≤p_2.2.length-(1:Nat)∧∀ (i:Nat),i<p'→(Hea.q18 p_2.2
  i==w&&p_2.2.getD i [] != p_2.2.getD (i+(1:Nat)) [])=false)∧(0:Int)=(p':Int))∧∀ (p_4:Nat),(p_4≤p_2.2.length-(1:Nat)∧∀ (i:Nat),i<p_4→(Hea.q18 p_2.2 i
  == w&&p_2.2.getD i [] != p_2.2.getD (i+(1:Nat)) [])=false)→bif decide ((p_4:Int)<(p_2.2.length:Int)-(1:Int)) then p_2.2.length≤(1000000:Nat) ∧
  (((-9223372036854775808:Int)≤(p_4:Int)+(1:Int)∧(p_4:Int)+(1:Int)≤(9223372036854775807:Int))∧((0:Int)≤(p_4:Int)+(1:Int)∧(p_4:Int)+(1:Int) <
  (p_2.2.length:Int))∧((0:Int)≤(p_4:Int)∧(p_4:Int)<(p_2.2.length:Int))∧((0:Int)≤(p_4:Int)∧(p_4:Int)<(p_2.2.length:Int))∧((-9223372036854775808:Int)
  ≤ (p_4:Int)+(1:Int)∧(p_4:Int)+(1:Int)≤(9223372036854775807:Int))∧bif (p_4:Int).toNat.beq (p_4:Int).toNat then ((0:Int)≤(p_4:Int)+(1:Int)∧(p_4:Int)
  + (1:Int)<(↑(p_2.2.set (p_4:Int).toNat (p_2.2.getD ((p_4:Int)+(1:Int)).toNat [])).length:Int))∧bif ((p_4:Int)+(1:Int)).toNat.beq ((p_4:Int)+(1:Int)).toNat
  then ∃ (p':Unit),(p_2.2.set (p_4:Int).toNat (p_2.2.getD ((p_4:Int)+(1:Int)).toNat [])).set ((p_4:Int)+(1:Int)).toNat (p_2.2.getD (p_4:Int).toNat [])=Hea.q18 p_2.2
  (p_4:Int).toNat else False else False)∧∀ (p_5:Unit),True→((Hea.q18 p_2.2 (p_4:Int).toNat).length≤(1000000:Nat)∧w.length≤(1000000:Nat))∧bif Hea.q18 p_2.2 (↑p_4 :
  Int).toNat==w then ((0:Int)≤(p_4:Int)∧(p_4:Int)<(p_2.2.length:Int))∧((-9223372036854775808:Int)≤(p_4:Int)+(1:Int)∧(p_4:Int)+(1:Int) ≤
  (9223372036854775807:Int))∧((0:Int)≤(p_4:Int)+(1:Int)∧(p_4:Int)+(1:Int)<(p_2.2.length:Int))∧bif !p_2.2.getD (p_4:Int).toNat []==p_2.2.getD ((p_4:Int) +
  (1:Int)).toNat [] then (p_1.2.length+[(List.getD book (p_1.1:Int).toNat Cod.noG).1].length)*(16:Nat)≤(140737488355328:Nat)∧((-9223372036854775808:Int)≤(p_1.1:Int) +
  (1:Int)∧(p_1.1:Int)+(1:Int)≤(9223372036854775807:Int))∧∃ (p':Nat×List (List UInt8)),(p'.1≤List.length book∧p'.2.length≤p'.1∧Hea.q0f (Hea.q04 e) e.ws w book
  []=Hea.q0f (Hea.q04 e) e.ws w (List.drop p'.1 book) p'.2)∧List.length book-p'.1<List.length book-p_1.1∧(p_1.1:Int)+(1:Int)=(p'.1:Int)∧p_1.2++[(List.getD book
  (p_1.1:Int).toNat Cod.noG).1]=p'.2 else ((-9223372036854775808:Int)≤(p_4:Int)+(1:Int)∧(p_4:Int)+(1:Int)≤(9223372036854775807:Int))∧∃ (p':Nat),(p' ≤
  p_2.2.length-(1:Nat)∧∀ (i:Nat),i<p'→(Hea.q18 p_2.2 i==w&&p_2.2.getD i [] != p_2.2.getD (i+(1:Nat)) [])=false)∧p_2.2.length-(1:Nat)-p'<p_2.2.length-(1 :
  Nat)-p_4∧(p_4:Int)+(1:Int)=(p':Int) else ((-9223372036854775808:Int)≤(p_4:Int)+(1:Int)∧(p_4:Int)+(1:Int)≤(9223372036854775807:Int))∧∃ (p':Nat),
  (p'≤p_2.2.length-(1:Nat)∧∀ (i:Nat),i<p'→(Hea.q18 p_2.2 i==w&&p_2.2.getD i [] != p_2.2.getD (i+(1:Nat)) [])=false)∧p_2.2.length-(1:Nat)-p'<p_2.2.length -
  (1:Nat)-p_4∧(p_4:Int)+(1:Int)=(p':Int) else ((-9223372036854775808:Int)≤(p_3:Int)+(1:Int)∧(p_3:Int)+(1:Int)≤(9223372036854775807:Int))∧∃ (p' :
  Nat),(p'≤(3:Nat)∧((1:Nat)≤p'→Hea.q2s (Hea.q04 e) p_2.2 w=false)∧((2:Nat)≤p'→Hea.q38 p_2.2 w=false)∧((3:Nat)≤p'→Hea.q37 p_2.2 w=false))∧(3:Nat)
  - p'<(3:Nat)-p_3∧(p_3:Int)+(1:Int)=(p':Int)) else ((-9223372036854775808:Int)≤(p_1.1:Int)+(1:Int)∧(p_1.1:Int)+(1:Int)≤(9223372036854775807:Int)) ∧
  ∃ (p':Nat×List (List UInt8)),(p'.1≤List.length book∧p'.2.length≤p'.1∧Hea.q0f (Hea.q04 e) e.ws w book []=Hea.q0f (Hea.q04 e) e.ws w (List.drop p'.1 book) p'.2) ∧
  List.length book-p'.1<List.length book-p_1.1∧(p_1.1:Int)+(1:Int)=(p'.1:Int)∧p_1.2=p'.2 else bif (p_1.2.length:Int)==(0:Int) then ([],false,(10:Int))=R
  else bif (p_1.2.length:Int)==(1:Int) then ((0:Int)≤(0:Int)∧(0:Int)<(p_1.2.length:Int))∧(p_1.2.getD 0 [],true,(0:Int))=R else ([],false,(8:Int))=R:=by
 subst hm
 refine ⟨⟨(0,[]),⟨Nat.zero_le _,Nat.le_refl _,rfl⟩,rfl,rfl⟩,?_⟩
 rintro ⟨i,doors⟩ ⟨hi,hd,hf⟩
 have hi:i≤book.length:=hi
 have hd:doors.length≤i:=hd
 have hf:Hea.q0f (Hea.q04 e) e.ws w book []=Hea.q0f (Hea.q04 e) e.ws w (book.drop i) doors:=hf
 have hti:((i:Int).toNat)=i:=rfl
 dsimp only
 simp only [hti]
 refine bifP (fun hb=>?_) fun hb=>?_
 ·have hlt:i<book.length:=by have:=of_decide_eq_true hb; omega
  have hmem:=Snd.q1v book Cod.noG i hlt
  have hdrop:book.drop i=book.getD i Cod.noG::book.drop (i+1):=by
   rw [List.drop_eq_getElem_cons hlt,List.getD_eq_getElem?_getD,List.getElem?_eq_getElem hlt]; rfl
  generalize book.getD i Cod.noG=g at hmem hdrop ⊢
  obtain ⟨hok,hgc⟩:=Hea.proper_code hp hmem
  obtain ⟨hv,hlen,hin⟩:=Cod.qho hgc
  have hnext:∀ ds:List (List UInt8),ds.length≤i+1→Hea.q0f (Hea.q04 e) e.ws w (book.drop i) doors=Hea.q0f (Hea.q04 e) e.ws w (book.drop (i+1)) ds →
    ((-9223372036854775808:Int)≤(i:Int)+(1:Int)∧(i:Int)+(1:Int)≤(9223372036854775807:Int))∧∃ (p':Nat×List (List UInt8)),(p'.1≤List.length book∧p'.2.length≤p'.1∧Hea.q0f (Hea.q04 e) e.ws w book []=Hea.q0f (Hea.q04 e) e.ws w (List.drop p'.1 book) p'.2)∧List.length book-p'.1<List.length book-i∧(i:Int)+(1:Int)=(p'.1:Int)∧ds=p'.2:=fun ds h1 h2 =>
   ⟨⟨by omega,by omega⟩,(i+1,ds),⟨hlt,h1,hf.trans h2⟩,by show book.length-(i+1)<book.length-i; omega,by push_cast; rfl,rfl⟩
  refine ⟨⟨by omega,by omega⟩,⟨(0,[]),⟨Nat.zero_le _,rfl⟩,rfl,rfl⟩,?_⟩
  rintro ⟨k,own⟩ ⟨hk,ho⟩
  have hk:k≤g.2.1.length:=hk
  obtain rfl:own=Hea.ownW e.ws (g.2.1.take k):=ho
  have htk:((k:Int).toNat)=k:=rfl
  dsimp only
  simp only [htk]
  refine bifP (fun hb=>?_) fun hb=>?_
  ·have hkl:k<g.2.1.length:=by have:=of_decide_eq_true hb; omega
   obtain ⟨q0,q1⟩:=Cod.in_getD hin hkl
   have hol:(Hea.ownW e.ws (g.2.1.take k)).length≤5:=by rw [Hea.own_len,List.length_take]; omega
   refine ⟨⟨by omega,by omega⟩,⟨q0,q1⟩,by rw [List.length_singleton]; omega,⟨by omega,by omega⟩,(k+1,_),⟨hkl,rfl⟩,by show g.2.1.length-(k+1)<g.2.1.length-k; omega,by push_cast; rfl,ownH_snoc _ _ _ hkl⟩
  ·have hkl:g.2.1.length≤k:=by have:=of_decide_eq_false hb; omega
   rw [List.take_of_length_le hkl]
   have hol:(Hea.ownW e.ws g.2.1).length≤5:=by rw [Hea.own_len]; omega
   have hos:=ownH_long e.ws hW g.2.1
   generalize hown:Hea.ownW e.ws g.2.1=own at hol hos ⊢
   refine ⟨⟨by omega,by omega⟩,bifP (fun hb=>?_) fun hne=>?_⟩
   ·rw [hR,hf,hdrop,Hea.q0f,hown,if_pos hb]
   have hyes:Hea.qa3 (Hea.q04 e) own w=true→(doors.length+[g.1].length)*(16:Nat)≤(140737488355328:Nat)∧((-9223372036854775808:Int)≤(i:Int)+(1:Int)∧(i:Int)+(1:Int)≤(9223372036854775807:Int))∧∃ (p':Nat×List (List UInt8)),(p'.1≤List.length book∧p'.2.length≤p'.1∧Hea.q0f (Hea.q04 e) e.ws w book []=Hea.q0f (Hea.q04 e) e.ws w (List.drop p'.1 book) p'.2)∧List.length book-p'.1<List.length book-i∧(i:Int)+(1:Int)=(p'.1:Int)∧doors++[g.1]=p'.2:=fun h=>by
    refine ⟨by rw [List.length_singleton]; omega,hnext (doors++[g.1]) (by rw [List.length_append,List.length_singleton]; omega) ?_⟩
    rw [hdrop,Hea.q0f,hown,if_neg (by rw [hne]; decide),h,if_pos rfl]
   refine ⟨⟨0,⟨Nat.zero_le _,fun h=>absurd h (by omega),fun h=>absurd h (by omega),fun h=>absurd h (by omega)⟩,rfl⟩,?_⟩
   rintro j ⟨hj,h1,h2,h3⟩
   refine bifP (fun hb=>?_) fun hb=>?_
   ·have hj3:j<3:=by have:=of_decide_eq_true hb; omega
    refine ⟨⟨by omega,by omega⟩,fun hj0=>?_,fun hj0=>?_,fun hj0=>?_⟩
    ·obtain rfl:j=0:=by omega
     refine Hea.repl_part e own w hC hos hwl (by omega) (fun h=>hyes (by unfold Hea.qa3; rw [h]; rfl)) fun h=>⟨⟨by omega,by omega⟩,1,⟨by omega,fun _=>h,fun h'=>absurd h' (by omega),fun h'=>absurd h' (by omega)⟩,by omega,rfl⟩
    ·obtain rfl:j=1:=by omega
     refine Hea.miss_part own w (by omega) (by omega) (fun h=>hyes (by unfold Hea.qa3; rw [h,Bool.true_or,Bool.or_true])) fun h=>⟨⟨by omega,by omega⟩,2,⟨by omega,fun _=>h1 (by omega),fun _=>h,fun h'=>absurd h' (by omega)⟩,by omega,rfl⟩
    ·obtain rfl:j=2:=by omega
     refine Hea.exch_part own w (by omega) (by omega) (fun h=>hyes (by unfold Hea.qa3; rw [h,Bool.or_true,Bool.or_true])) fun h=>⟨⟨by omega,by omega⟩,3,⟨by omega,fun _=>h1 (by omega),fun _=>h2 (by omega),fun _=>h⟩,by omega,rfl⟩
   ·have hj3:3≤j:=by have:=of_decide_eq_false hb; omega
    refine hnext doors (by omega) ?_
    have hno:Hea.qa3 (Hea.q04 e) own w=false:=by
     unfold Hea.qa3
     rw [h1 (by omega),h2 (by omega),h3 (by omega)]; rfl
    rw [hdrop,Hea.q0f,hown,if_neg (by rw [hne]; decide),hno,if_neg (by decide)]
 ·have hle:book.length≤i:=by have:=of_decide_eq_false hb; omega
  rw [List.drop_eq_nil_of_le hle] at hf
  rw [hR,hf]
  refine bifP (fun hb=>?_) fun h0=>bifP (fun hb=>?_) fun h1=>?_
  ·have:=eq_of_beq hb
   obtain rfl:doors=[]:=List.eq_nil_of_length_eq_zero (by omega)
   rfl
  ·have:=eq_of_beq hb
   obtain ⟨d,rfl⟩:=List.length_eq_one_iff.1 (show doors.length=1 by omega)
   exact ⟨⟨by omega,by rw [List.length_singleton]; omega⟩,rfl⟩
  ·match doors with
   | []=>exact absurd rfl (beq_eq_false_iff_ne.1 h0)
   | [d]=>exact absurd rfl (beq_eq_false_iff_ne.1 h1)
   | _::_::_=>rfl
end Go.Proofs.YtfecgebhoondjaaGreatDoor
set_option linter.unusedVariables false
namespace Go.Proofs.YtfecgebhoondjaaGreatDoor
open Go.RowKit
open R
abbrev q2a (book:q0d) (e:Cod.Ear) (p_1:Nat×List (List UInt8)):Prop :=
 ((True∧True∧True)∧(e.c=e.c∧True)∧(e.lang=e.lang∧e.ws=e.ws∧True)∧((List.getD book (p_1.1:Int).toNat Cod.noG).1=(List.getD book (p_1.1:Int).toNat Cod.noG).1∧(List.getD book (p_1.1:Int).toNat Cod.noG).2.1=(List.getD book (p_1.1:Int).toNat Cod.noG).2.1∧(List.getD book (p_1.1:Int).toNat Cod.noG).2.2.1=(List.getD book (p_1.1:Int).toNat Cod.noG).2.2.1∧(List.getD book (p_1.1:Int).toNat Cod.noG).2.2.2.1=(List.getD book (p_1.1:Int).toNat Cod.noG).2.2.2.1∧(List.getD book (p_1.1:Int).toNat Cod.noG).2.2.2.2=(List.getD book (p_1.1:Int).toNat Cod.noG).2.2.2.2∧True)∧(True∧True)∧True)
abbrev q43 (book:q0d) (p_1:Nat×List (List UInt8)) (p_3:Nat):Prop :=
 (True∧True∧(p_3:Int)=(p_3:Int)∧(↑[((102:Nat),[(nat_lit 22011,nat_lit 0)].length,[(nat_lit 22011,nat_lit 0)]++[]),((103:Nat),[(nat_lit 22011,nat_lit 0)].length,[(nat_lit 22011,nat_lit 0)]++[]),((104:Nat),[(nat_lit 22011,nat_lit 0)].length,[(nat_lit 22011,nat_lit 0)]++[])].length:Int)=(↑[((102:Nat),[(nat_lit 22011,nat_lit 0)].length,[(nat_lit 22011,nat_lit 0)]++[]),((103:Nat),[(nat_lit 22011,nat_lit 0)].length,[(nat_lit 22011,nat_lit 0)]++[]),((104:Nat),[(nat_lit 22011,nat_lit 0)].length,[(nat_lit 22011,nat_lit 0)]++[])].length:Int)∧(p_3:Int)=(p_3:Int)∧True∧True∧True∧True∧True∧book=book∧(↑(List.length book):Int)=(↑(List.length book):Int)∧(p_1.1:Int)=(p_1.1:Int)∧True)
abbrev qae (p':Nat) (p_3:Nat):Prop :=
 ((p_3:Int)+1=(p':Int)∧True∧True∧(↑[((102:Nat),[(nat_lit 22011,nat_lit 0)].length,[(nat_lit 22011,nat_lit 0)]++[]),((103:Nat),[(nat_lit 22011,nat_lit 0)].length,[(nat_lit 22011,nat_lit 0)]++[]),((104:Nat),[(nat_lit 22011,nat_lit 0)].length,[(nat_lit 22011,nat_lit 0)]++[])].length:Int)=(↑[((102:Nat),[(nat_lit 22011,nat_lit 0)].length,[(nat_lit 22011,nat_lit 0)]++[]),((103:Nat),[(nat_lit 22011,nat_lit 0)].length,[(nat_lit 22011,nat_lit 0)]++[]),((104:Nat),[(nat_lit 22011,nat_lit 0)].length,[(nat_lit 22011,nat_lit 0)]++[])].length:Int)∧True)
abbrev q8j (e:Cod.Ear) (p:Bool×List UInt8×List (List UInt8)) (p':Nat) (p_2:Nat×List (List UInt8)):Prop :=
 (p'≤(3:Nat)∧((1:Nat)≤p'→Hea.q2s (Hea.q04 e) p_2.2 p.2.2=false)∧((2:Nat)≤p'→Hea.q38 p_2.2 p.2.2=false)∧((3:Nat)≤p'→Hea.q37 p_2.2 p.2.2=false))
abbrev q6y (book:q0d) (e:Cod.Ear) (p:Bool×List UInt8×List (List UInt8)) (p':Nat×List (List UInt8)):Prop :=
 (p'.1≤List.length book∧p'.2.length≤p'.1∧Hea.q0f (Hea.q04 e) e.ws p.2.2 book []=Hea.q0f (Hea.q04 e) e.ws p.2.2 (List.drop p'.1 book) p'.2)
abbrev zHeJ0_5 (book:q0d) (e:Cod.Ear) (p:Bool×List UInt8×List (List UInt8)) (text:List UInt8):Prop :=
 ((p.2.2.length+[(cutF p.2.1).1].length)*(16:Nat)≤(140737488355328:Nat)∧∃ (p':Bool×List UInt8×List (List UInt8)),q3x text p'.1 p'.2.1 p'.2.2∧((if p'.1=true then p'.2.1.length+(1:Nat) else (0:Nat))<if p.1=true then p.2.1.length+(1:Nat) else (0:Nat))∧((cutF p.2.1).2.2=p'.1∧True∧True∧True)∧(((cutF p.2.1).2.1=p'.2.1∧True)∧(True∧True∧True)∧(e.c=e.c∧True)∧(True∧True)∧(false=false∧True)∧(True∧True)∧(e.lang=e.lang∧e.ws=e.ws∧True)∧True)∧(p.2.2++[(cutF p.2.1).1]=p'.2.2∧True)∧True∧True∧(True∧True∧True∧book=book∧True∧True)∧True∧True∧True∧True∧(True∧True∧True∧True)∧True)
abbrev q8b (book:q0d) (p_1:Nat×List (List UInt8)):Prop :=
 (True∧True∧True∧True∧True∧book=book∧(↑(List.length book):Int)=(↑(List.length book):Int)∧(p_1.1:Int)=(p_1.1:Int)∧True)
abbrev q8t (book:q0d) (p':Nat×List (List UInt8)) (p_1:Nat×List (List UInt8)):Prop :=
 ((p_1.1:Int)+1=(p'.1:Int)∧True∧(↑(List.length book):Int)=(↑(List.length book):Int)∧True∧True∧True∧book=book∧True)
abbrev zHeJ0_8 (book:q0d) (e:Cod.Ear) (p_1:Nat×List (List UInt8)):Prop :=
 ((True∧True)∧(True∧True∧True)∧(e.c=e.c∧True)∧(e.lang=e.lang∧e.ws=e.ws∧True)∧((List.getD book (p_1.1:Int).toNat Cod.noG).1=(List.getD book (p_1.1:Int).toNat Cod.noG).1∧(List.getD book (p_1.1:Int).toNat Cod.noG).2.1=(List.getD book (p_1.1:Int).toNat Cod.noG).2.1∧(List.getD book (p_1.1:Int).toNat Cod.noG).2.2.1=(List.getD book (p_1.1:Int).toNat Cod.noG).2.2.1∧(List.getD book (p_1.1:Int).toNat Cod.noG).2.2.2.1=(List.getD book (p_1.1:Int).toNat Cod.noG).2.2.2.1∧(List.getD book (p_1.1:Int).toNat Cod.noG).2.2.2.2=(List.getD book (p_1.1:Int).toNat Cod.noG).2.2.2.2∧True)∧True)
abbrev q77 (e:Cod.Ear):Prop :=
 ((True∧True∧True)∧(e.c=e.c∧True)∧(e.lang=e.lang∧e.ws=e.ws∧True)∧True)
abbrev q21 (p:Bool×List UInt8×List (List UInt8)) (p_1:Nat×List (List UInt8)) (p_2:Nat×List (List UInt8)):Prop :=
 (p.2.2=p.2.2∧p_1.2=p_1.2∧p_2.2=p_2.2∧True)
abbrev qdo (e:Cod.Ear) (p:Bool×List UInt8×List (List UInt8)) (p':Nat×Nat) (p_2:Nat×List (List UInt8)):Prop :=
 (p'.1≤p.2.2.length∧p'.2=(Hea.diff (List.take p'.1 p_2.2) (List.take p'.1 p.2.2)).length∧((Hea.diff (List.take p'.1 p_2.2) (List.take p'.1 p.2.2)).all fun (q:Hea.Str×Hea.Str)=>Hea.q04 e q.1 q.2)=true)
abbrev qd0 (p_2:Nat×List (List UInt8)) (p_4:Nat):Prop :=
 ((p_4:Int)+1=(p_4:Int)+1∧0≤(p_4:Int)∧(p_4:Int)<(p_2.2.length:Int))
set_option maxRecDepth 100000 in
theorem hear_vc (e:Cod.Ear) (book:q0d) (text:List UInt8) (h:cHear.pre ((e.lang,e.ws),e.c,book,text)) :
  (q1g (e.lang,e.ws)∧q0t e.c∧q3y book)∧bif !e.proper book then ([],false,(1:Int))=Hea.q0n e book text else (∃ (p':Bool×List UInt8×List (List UInt8)),q3x text p'.1 p'.2.1 p'.2.2∧(true=p'.1∧True∧True∧True)∧((text=p'.2.1∧True)∧(True∧True∧True)∧(e.c=e.c∧True)∧(True∧True)∧(false=false∧True)∧(True∧True)∧(e.lang=e.lang∧e.ws=e.ws∧True)∧True)∧(p'.2.2=[]∧True)∧True∧True∧(True∧True∧True∧book=book∧True∧True)∧True∧True∧True∧True∧(True∧True∧True∧True)∧True)∧∀ (p:Bool×List UInt8×List (List UInt8)),q3x text p.1 p.2.1 p.2.2→bif p.1 then (p.2.1.length≤(1000000:Nat)∧[(32:UInt8)]=[(32:UInt8)])∧(cutF p.2.1).1.length≤(1000000:Nat)∧bif (cutF p.2.1).1.any fun (c:UInt8)=>!Snd.letB c then ([],false,(5:Int))=Hea.q0n e book text else bif (cutF p.2.1).1==[] then ([],false,(5:Int))=Hea.q0n e book text else bif decide ((12:Int)<(↑(cutF p.2.1).1.length:Int)) then ([],false,(5:Int))=Hea.q0n e book text else bif (p.2.2.length:Int)==(5:Int) then ([],false,(5:Int))=Hea.q0n e book text else (zHeJ0_5 book e p text)∧(zHeJ0_5 book e p text)∧(p.2.2.length+[(cutF p.2.1).1].length)*(16:Nat)≤(140737488355328:Nat)∧∃ (p':Bool×List UInt8×List (List UInt8)),q3x text p'.1 p'.2.1 p'.2.2∧((if p'.1=true then p'.2.1.length+(1:Nat) else (0:Nat))<if p.1=true then p.2.1.length+(1:Nat) else (0:Nat))∧((cutF p.2.1).2.2=p'.1∧True∧True∧True)∧(((cutF p.2.1).2.1=p'.2.1∧True)∧(True∧True∧True)∧(e.c=e.c∧True)∧(True∧True)∧(false=false∧True)∧(True∧True)∧(e.lang=e.lang∧e.ws=e.ws∧True)∧True)∧(p.2.2++[(cutF p.2.1).1]=p'.2.2∧True)∧True∧True∧(True∧True∧True∧book=book∧True∧True)∧True∧True∧True∧True∧(True∧True∧True∧True)∧True else (∃ (p':Nat×List (List UInt8)),(q6y book e p p')∧((0:Int)=(p'.1:Int)∧True∧(↑(List.length book):Int)=(↑(List.length book):Int)∧True∧True∧True∧book=book∧True)∧(q77 e)∧(p.2.2=p.2.2∧p'.2=[]∧True)∧True∧True∧True∧True∧True∧True∧True)∧∀ (p_1:Nat×List (List UInt8)),p_1.1≤List.length book∧p_1.2.length≤p_1.1∧Hea.q0f (Hea.q04 e) e.ws p.2.2 book []=Hea.q0f (Hea.q04 e) e.ws p.2.2 (List.drop p_1.1 book) p_1.2→bif decide ((p_1.1:Int)<(↑(List.length book):Int)) then (0≤(p_1.1:Int)∧(p_1.1:Int)<(↑(List.length book):Int))∧(∃ (p':Nat×List (List UInt8)),(p'.1≤(List.getD book (p_1.1:Int).toNat Cod.noG).2.1.length∧p'.2=Hea.ownW e.ws (List.take p'.1 (List.getD book (p_1.1:Int).toNat Cod.noG).2.1))∧((0:Int)=(p'.1:Int)∧True∧True∧True∧True∧True∧True∧book=book∧(↑(List.length book):Int)=(↑(List.length book):Int)∧(p_1.1:Int)=(p_1.1:Int)∧(List.getD book (p_1.1:Int).toNat Cod.noG).2.1=(List.getD book (p_1.1:Int).toNat Cod.noG).2.1∧(↑(List.getD book (p_1.1:Int).toNat Cod.noG).2.1.length:Int)=(↑(List.getD book (p_1.1:Int).toNat Cod.noG).2.1.length:Int)∧True)∧(zHeJ0_8 book e p_1)∧(p'.2=[]∧p.2.2=p.2.2∧p_1.2=p_1.2∧True)∧True∧True∧True∧True∧True∧True∧True)∧∀ (p_2:Nat×List (List UInt8)),p_2.1≤(List.getD book (p_1.1:Int).toNat Cod.noG).2.1.length∧p_2.2=Hea.ownW e.ws (List.take p_2.1 (List.getD book (p_1.1:Int).toNat Cod.noG).2.1)→bif decide ((p_2.1:Int)<(↑(List.getD book (p_1.1:Int).toNat Cod.noG).2.1.length:Int)) then (0≤(p_2.1:Int)∧(p_2.1:Int)<(↑(List.getD book (p_1.1:Int).toNat Cod.noG).2.1.length:Int))∧((0:Int)≤(List.getD book (p_1.1:Int).toNat Cod.noG).2.1.getD (p_2.1:Int).toNat (0:Int)∧(List.getD book (p_1.1:Int).toNat Cod.noG).2.1.getD (p_2.1:Int).toNat 0<(e.ws.length:Int))∧(p_2.2.length+[e.ws.getD ((List.getD book (p_1.1:Int).toNat Cod.noG).2.1.getD (p_2.1:Int).toNat (0:Int)).toNat []].length)*(16:Nat)≤(140737488355328:Nat)∧(zFit ((p_2.1:Int)+1))∧∃ (p':Nat×List (List UInt8)),(p'.1≤(List.getD book (p_1.1:Int).toNat Cod.noG).2.1.length∧p'.2=Hea.ownW e.ws (List.take p'.1 (List.getD book (p_1.1:Int).toNat Cod.noG).2.1))∧(List.getD book (p_1.1:Int).toNat Cod.noG).2.1.length-p'.1<(List.getD book (p_1.1:Int).toNat Cod.noG).2.1.length-p_2.1∧((p_2.1:Int)+1=(p'.1:Int)∧True∧True∧True∧True∧True∧True∧book=book∧(↑(List.length book):Int)=(↑(List.length book):Int)∧(p_1.1:Int)=(p_1.1:Int)∧(List.getD book (p_1.1:Int).toNat Cod.noG).2.1=(List.getD book (p_1.1:Int).toNat Cod.noG).2.1∧(↑(List.getD book (p_1.1:Int).toNat Cod.noG).2.1.length:Int)=(↑(List.getD book (p_1.1:Int).toNat Cod.noG).2.1.length:Int)∧True)∧(zHeJ0_8 book e p_1)∧(p_2.2++[e.ws.getD ((List.getD book (p_1.1:Int).toNat Cod.noG).2.1.getD (p_2.1:Int).toNat (0:Int)).toNat []]=p'.2∧p.2.2=p.2.2∧p_1.2=p_1.2∧True)∧True∧True∧True∧True∧True∧True∧True else (p_2.2.length≤(1000000:Nat)∧p.2.2.length≤(1000000:Nat))∧bif p_2.2==p.2.2 then ((List.getD book (p_1.1:Int).toNat Cod.noG).1,false,(0:Int))=Hea.q0n e book text else (∃ (p':Nat),(q8j e p p' p_2)∧((0:Int)=(p':Int)∧True∧True∧(↑[((102:Nat),[(nat_lit 22011,nat_lit 0)].length,[(nat_lit 22011,nat_lit 0)]++[]),((103:Nat),[(nat_lit 22011,nat_lit 0)].length,[(nat_lit 22011,nat_lit 0)]++[]),((104:Nat),[(nat_lit 22011,nat_lit 0)].length,[(nat_lit 22011,nat_lit 0)]++[])].length:Int)=(↑[((102:Nat),[(nat_lit 22011,nat_lit 0)].length,[(nat_lit 22011,nat_lit 0)]++[]),((103:Nat),[(nat_lit 22011,nat_lit 0)].length,[(nat_lit 22011,nat_lit 0)]++[]),((104:Nat),[(nat_lit 22011,nat_lit 0)].length,[(nat_lit 22011,nat_lit 0)]++[])].length:Int)∧True)∧(q2a book e p_1)∧(q21 p p_1 p_2)∧True∧True∧(q8b book p_1)∧True∧True∧True∧True)∧∀ (p_3:Nat),p_3≤(3:Nat)∧((1:Nat)≤p_3→Hea.q2s (Hea.q04 e) p_2.2 p.2.2=false)∧((2:Nat)≤p_3→Hea.q38 p_2.2 p.2.2=false)∧((3:Nat)≤p_3→Hea.q37 p_2.2 p.2.2=false)→bif decide ((p_3:Int)<(↑[((102:Nat),[(nat_lit 22011,nat_lit 0)].length,[(nat_lit 22011,nat_lit 0)]++[]),((103:Nat),[(nat_lit 22011,nat_lit 0)].length,[(nat_lit 22011,nat_lit 0)]++[]),((104:Nat),[(nat_lit 22011,nat_lit 0)].length,[(nat_lit 22011,nat_lit 0)]++[])].length:Int)) then (0≤(p_3:Int)∧(p_3:Int)<(↑[((102:Nat),[(nat_lit 22011,nat_lit 0)].length,[(nat_lit 22011,nat_lit 0)]++[]),((103:Nat),[(nat_lit 22011,nat_lit 0)].length,[(nat_lit 22011,nat_lit 0)]++[]),((104:Nat),[(nat_lit 22011,nat_lit 0)].length,[(nat_lit 22011,nat_lit 0)]++[])].length:Int))∧((p_3:Int)=(↑(nat_lit 0):Int)→bif (p_2.2.length:Int) != (p.2.2.length:Int) then (zFit ((p_3:Int)+1))∧∃ (p':Nat),(q8j e p p' p_2)∧(3:Nat)-p'<(3:Nat)-p_3∧(qae p' p_3)∧(q2a book e p_1)∧(q21 p p_1 p_2)∧True∧True∧(q8b book p_1)∧True∧True∧True∧True else (∃ (p':Nat×Nat),(qdo e p p' p_2)∧((0:Int)=(p'.1:Int)∧(0:Int)=(p'.2:Int)∧True∧True∧True∧(p.2.2.length:Int)=(p.2.2.length:Int)∧True)∧(q2a book e p_1)∧(q21 p p_1 p_2)∧True∧True∧(q43 book p_1 p_3)∧True∧True∧True∧True)∧∀ (p_4:Nat×Nat),p_4.1≤p.2.2.length∧p_4.2=(Hea.diff (List.take p_4.1 p_2.2) (List.take p_4.1 p.2.2)).length∧((Hea.diff (List.take p_4.1 p_2.2) (List.take p_4.1 p.2.2)).all fun (q:Hea.Str×Hea.Str)=>Hea.q04 e q.1 q.2)=true→bif decide ((p_4.1:Int)<(p.2.2.length:Int)) then (0≤(p_4.1:Int)∧(p_4.1:Int)<(p.2.2.length:Int))∧(0≤(p_4.1:Int)∧(p_4.1:Int)<(p_2.2.length:Int))∧bif !p.2.2.getD (p_4.1:Int).toNat []==p_2.2.getD (p_4.1:Int).toNat [] then (zFit ((p_4.2:Int)+1))∧(0≤(p_4.1:Int)∧(p_4.1:Int)<(p_2.2.length:Int))∧(q0t e.c∧(p_2.2.getD (p_4.1:Int).toNat []).length≤(1000000:Nat)∧(p.2.2.getD (p_4.1:Int).toNat []).length≤(1000000:Nat))∧bif !Snd.q27 e.c (p_2.2.getD (p_4.1:Int).toNat []) (p.2.2.getD (p_4.1:Int).toNat []) then (zFit ((p_3:Int)+1))∧∃ (p':Nat),(q8j e p p' p_2)∧(3:Nat)-p'<(3:Nat)-p_3∧(qae p' p_3)∧(q2a book e p_1)∧(q21 p p_1 p_2)∧True∧True∧(q8b book p_1)∧True∧True∧True∧True else (zFit ((p_4.1:Int)+1))∧∃ (p':Nat×Nat),(qdo e p p' p_2)∧p.2.2.length-p'.1<p.2.2.length-p_4.1∧((p_4.1:Int)+1=(p'.1:Int)∧(p_4.2:Int)+1=(p'.2:Int)∧True∧True∧True∧(p.2.2.length:Int)=(p.2.2.length:Int)∧True)∧(q2a book e p_1)∧(q21 p p_1 p_2)∧True∧True∧(q43 book p_1 p_3)∧True∧True∧True∧True else (zFit ((p_4.1:Int)+1))∧∃ (p':Nat×Nat),(qdo e p p' p_2)∧p.2.2.length-p'.1<p.2.2.length-p_4.1∧((p_4.1:Int)+1=(p'.1:Int)∧(p_4.2:Int)=(p'.2:Int)∧True∧True∧True∧(p.2.2.length:Int)=(p.2.2.length:Int)∧True)∧(q2a book e p_1)∧(q21 p p_1 p_2)∧True∧True∧(q43 book p_1 p_3)∧True∧True∧True∧True else bif (p_4.2:Int)==(1:Int) then (p_1.2.length+[(List.getD book (p_1.1:Int).toNat Cod.noG).1].length)*(16:Nat)≤(140737488355328:Nat)∧(zFit ((p_1.1:Int)+1))∧∃ (p':Nat×List (List UInt8)),(q6y book e p p')∧List.length book-p'.1<List.length book-p_1.1∧(q8t book p' p_1)∧(q77 e)∧(p.2.2=p.2.2∧p_1.2++[(List.getD book (p_1.1:Int).toNat Cod.noG).1]=p'.2∧True)∧True∧True∧True∧True∧True∧True∧True else (zFit ((p_3:Int)+1))∧∃ (p':Nat),(q8j e p p' p_2)∧(3:Nat)-p'<(3:Nat)-p_3∧(qae p' p_3)∧(q2a book e p_1)∧(q21 p p_1 p_2)∧True∧True∧(q8b book p_1)∧True∧True∧True∧True)∧((p_3:Int)=(↑(nat_lit 1):Int)→(∃ (p':Nat),(p'≤p_2.2.length∧∀ (i:Nat),i<p'→(p_2.2.eraseIdx i==p.2.2)=false)∧((0:Int)=(p':Int)∧True∧True∧(p_2.2.length:Int)=(p_2.2.length:Int)∧True)∧(q2a book e p_1)∧(q21 p p_1 p_2)∧True∧True∧(q43 book p_1 p_3)∧True∧True∧True∧True)∧∀ (p_4:Nat),(p_4≤p_2.2.length∧∀ (i:Nat),i<p_4→(p_2.2.eraseIdx i==p.2.2)=false)→bif decide ((p_4:Int)<(p_2.2.length:Int)) then (zFit ((p_4:Int)+1))∧(p_2.2.length≤(1000000:Nat)∧((qd0 p_2 p_4)∧((p_2.2.eraseIdx (p_4:Int).toNat).length≤(1000000:Nat)∧p.2.2.length≤(1000000:Nat))∧bif p_2.2.eraseIdx (p_4:Int).toNat==p.2.2 then (p_1.2.length+[(List.getD book (p_1.1:Int).toNat Cod.noG).1].length)*(16:Nat)≤(140737488355328:Nat)∧(zFit ((p_1.1:Int)+1))∧∃ (p':Nat×List (List UInt8)),(q6y book e p p')∧List.length book-p'.1<List.length book-p_1.1∧(q8t book p' p_1)∧(q77 e)∧(p.2.2=p.2.2∧p_1.2++[(List.getD book (p_1.1:Int).toNat Cod.noG).1]=p'.2∧True)∧True∧True∧True∧True∧True∧True∧True else (zFit ((p_4:Int)+1))∧∃ (p':Nat),(p'≤p_2.2.length∧∀ (i:Nat),i<p'→(p_2.2.eraseIdx i==p.2.2)=false)∧p_2.2.length-p'<p_2.2.length-p_4∧((p_4:Int)+1=(p':Int)∧True∧True∧(p_2.2.length:Int)=(p_2.2.length:Int)∧True)∧(q2a book e p_1)∧(q21 p p_1 p_2)∧True∧True∧(q43 book p_1 p_3)∧True∧True∧True∧True)∧(qd0 p_2 p_4)∧((p_2.2.eraseIdx (p_4:Int).toNat).length≤(1000000:Nat)∧p.2.2.length≤(1000000:Nat))∧bif p_2.2.eraseIdx (p_4:Int).toNat==p.2.2 then (p_1.2.length+[(List.getD book (p_1.1:Int).toNat Cod.noG).1].length)*(16:Nat)≤(140737488355328:Nat)∧(zFit ((p_1.1:Int)+1))∧∃ (p':Nat×List (List UInt8)),(q6y book e p p')∧List.length book-p'.1<List.length book-p_1.1∧(q8t book p' p_1)∧(q77 e)∧(p.2.2=p.2.2∧p_1.2++[(List.getD book (p_1.1:Int).toNat Cod.noG).1]=p'.2∧True)∧True∧True∧True∧True∧True∧True∧True else (zFit ((p_4:Int)+1))∧∃ (p':Nat),(p'≤p_2.2.length∧∀ (i:Nat),i<p'→(p_2.2.eraseIdx i==p.2.2)=false)∧p_2.2.length-p'<p_2.2.length-p_4∧((p_4:Int)+1=(p':Int)∧True∧True∧(p_2.2.length:Int)=(p_2.2.length:Int)∧True)∧(q2a book e p_1)∧(q21 p p_1 p_2)∧True∧True∧(q43 book p_1 p_3)∧True∧True∧True∧True)∧p_2.2.length≤(1000000:Nat)∧(qd0 p_2 p_4)∧((p_2.2.eraseIdx (p_4:Int).toNat).length≤(1000000:Nat)∧p.2.2.length≤(1000000:Nat))∧bif p_2.2.eraseIdx (p_4:Int).toNat==p.2.2 then (p_1.2.length+[(List.getD book (p_1.1:Int).toNat Cod.noG).1].length)*(16:Nat)≤(140737488355328:Nat)∧(zFit ((p_1.1:Int)+1))∧∃ (p':Nat×List (List UInt8)),(q6y book e p p')∧List.length book-p'.1<List.length book-p_1.1∧(q8t book p' p_1)∧(q77 e)∧(p.2.2=p.2.2∧p_1.2++[(List.getD book (p_1.1:Int).toNat Cod.noG).1]=p'.2∧True)∧True∧True∧True∧True∧True∧True∧True else (zFit ((p_4:Int)+1))∧∃ (p':Nat),(p'≤p_2.2.length∧∀ (i:Nat),i<p'→(p_2.2.eraseIdx i==p.2.2)=false)∧p_2.2.length-p'<p_2.2.length-p_4∧((p_4:Int)+1=(p':Int)∧True∧True∧(p_2.2.length:Int)=(p_2.2.length:Int)∧True)∧(q2a book e p_1)∧(q21 p p_1 p_2)∧True∧True∧(q43 book p_1 p_3)∧True∧True∧True∧True else (zFit ((p_3:Int)+1))∧∃ (p':Nat),(q8j e p p' p_2)∧(3:Nat)-p'<(3:Nat)-p_3∧(qae p' p_3)∧(q2a book e p_1)∧(q21 p p_1 p_2)∧True∧True∧(q8b book p_1)∧True∧True∧True∧True)∧((p_3:Int)=(↑(nat_lit 2):Int)→(zFit ((p_2.2.length:Int)-1))∧(∃ (p':Nat),(p'≤p_2.2.length-(1:Nat)∧∀ (i:Nat),i<p'→(Hea.q18 p_2.2 i==p.2.2&&p_2.2.getD i [] != p_2.2.getD (i+(1:Nat)) [])=false)∧((0:Int)=(p':Int)∧True∧True∧(p_2.2.length:Int)-1=(p_2.2.length:Int)-1∧True)∧(q2a book e p_1)∧(q21 p p_1 p_2)∧True∧True∧(q43 book p_1 p_3)∧True∧True∧True∧True)∧∀ (p_4:Nat),(p_4≤p_2.2.length-(1:Nat)∧∀ (i:Nat),i<p_4→(Hea.q18 p_2.2 i==p.2.2&&p_2.2.getD i [] != p_2.2.getD (i+(1:Nat)) [])=false)→bif decide ((p_4:Int)<(p_2.2.length:Int)-1) then p_2.2.length≤(1000000:Nat)∧((zFit ((p_4:Int)+1))∧(0≤(p_4:Int)+1∧(p_4:Int)+1<(p_2.2.length:Int))∧(0≤(p_4:Int)∧(p_4:Int)<(p_2.2.length:Int))∧(0≤(p_4:Int)∧(p_4:Int)<(p_2.2.length:Int))∧(zFit ((p_4:Int)+1))∧bif (p_4:Int).toNat.beq (p_4:Int).toNat then (0≤(p_4:Int)+1∧(p_4:Int)+1<(↑(p_2.2.set (p_4:Int).toNat (p_2.2.getD ((p_4:Int)+1).toNat [])).length:Int))∧bif ((p_4:Int)+1).toNat.beq ((p_4:Int)+1).toNat then ∃ (p':Unit),True∧(True∧True∧(p_4:Int)=(p_4:Int)∧True∧(p_2.2.length:Int)-1=(p_2.2.length:Int)-1∧(p_4:Int)=(p_4:Int)∧True)∧(q2a book e p_1)∧((p_2.2.set (p_4:Int).toNat (p_2.2.getD ((p_4:Int)+1).toNat [])).set ((p_4:Int)+1).toNat (p_2.2.getD (p_4:Int).toNat [])=Hea.q18 p_2.2 (p_4:Int).toNat∧p.2.2=p.2.2∧p_1.2=p_1.2∧p_2.2=p_2.2∧True)∧True∧True∧(q43 book p_1 p_3)∧True∧True∧True∧True else False else False)∧∀ (p_5:Unit),True→((Hea.q18 p_2.2 (p_4:Int).toNat).length≤(1000000:Nat)∧p.2.2.length≤(1000000:Nat))∧bif Hea.q18 p_2.2 (p_4:Int).toNat==p.2.2 then (0≤(p_4:Int)∧(p_4:Int)<(p_2.2.length:Int))∧(zFit ((p_4:Int)+1))∧(0≤(p_4:Int)+1∧(p_4:Int)+1<(p_2.2.length:Int))∧bif !p_2.2.getD (p_4:Int).toNat []==p_2.2.getD ((p_4:Int)+1).toNat [] then (p_1.2.length+[(List.getD book (p_1.1:Int).toNat Cod.noG).1].length)*(16:Nat)≤(140737488355328:Nat)∧(zFit ((p_1.1:Int)+1))∧∃ (p':Nat×List (List UInt8)),(q6y book e p p')∧List.length book-p'.1<List.length book-p_1.1∧(q8t book p' p_1)∧(q77 e)∧(p.2.2=p.2.2∧p_1.2++[(List.getD book (p_1.1:Int).toNat Cod.noG).1]=p'.2∧True)∧True∧True∧True∧True∧True∧True∧True else (zFit ((p_4:Int)+1))∧∃ (p':Nat),(p'≤p_2.2.length-(1:Nat)∧∀ (i:Nat),i<p'→(Hea.q18 p_2.2 i==p.2.2&&p_2.2.getD i [] != p_2.2.getD (i+(1:Nat)) [])=false)∧p_2.2.length-(1:Nat)-p'<p_2.2.length-(1:Nat)-p_4∧((p_4:Int)+1=(p':Int)∧True∧True∧(p_2.2.length:Int)-1=(p_2.2.length:Int)-1∧True)∧(q2a book e p_1)∧(q21 p p_1 p_2)∧True∧True∧(q43 book p_1 p_3)∧True∧True∧True∧True else (zFit ((p_4:Int)+1))∧∃ (p':Nat),(p'≤p_2.2.length-(1:Nat)∧∀ (i:Nat),i<p'→(Hea.q18 p_2.2 i==p.2.2&&p_2.2.getD i [] != p_2.2.getD (i+(1:Nat)) [])=false)∧p_2.2.length-(1:Nat)-p'<p_2.2.length-(1:Nat)-p_4∧((p_4:Int)+1=(p':Int)∧True∧True∧(p_2.2.length:Int)-1=(p_2.2.length:Int)-1∧True)∧(q2a book e p_1)∧(q21 p p_1 p_2)∧True∧True∧(q43 book p_1 p_3)∧True∧True∧True∧True else (zFit ((p_3:Int)+1))∧∃ (p':Nat),(q8j e p p' p_2)∧(3:Nat)-p'<(3:Nat)-p_3∧(qae p' p_3)∧(q2a book e p_1)∧(q21 p p_1 p_2)∧True∧True∧(q8b book p_1)∧True∧True∧True∧True) else (zFit ((p_1.1:Int)+1))∧∃ (p':Nat×List (List UInt8)),(q6y book e p p')∧List.length book-p'.1<List.length book-p_1.1∧(q8t book p' p_1)∧(q77 e)∧(p.2.2=p.2.2∧p_1.2=p'.2∧True)∧True∧True∧True∧True∧True∧True∧True else bif (p_1.2.length:Int)==(0:Int) then ([],false,(10:Int))=Hea.q0n e book text else bif (p_1.2.length:Int)==(1:Int) then ((0:Int)≤0∧0<(p_1.2.length:Int))∧(p_1.2.getD (nat_lit 0) [],true,(0:Int))=Hea.q0n e book text else ([],false,(8:Int))=Hea.q0n e book text:=by
 delta q2a q43 qae q8j q6y zHeJ0_5 q8b q8t zHeJ0_8 q77 q21 qdo qd0 zFit
 obtain ⟨hW,hC,hB,hT⟩:=h
 have hT:text.length≤1000:=hT
 simp only [true_and,and_true]
 refine ⟨⟨hW,hC,hB⟩,bifP (fun hb=>?_) fun hb=>?_⟩
 ·unfold Hea.q0n
  rw [if_pos hb]
 have hp:e.proper book=true:=by simpa using hb
 have hh:Hea.q0n e book text=match Hea.q6n text with
   | none=>([],false,5)
   | some words=>Hea.q0f (Hea.q04 e) e.ws words book []:=by
  unfold Hea.q0n
  rw [hp]; rfl
 refine ⟨⟨(true,text,[]),⟨rfl,rfl,Nat.zero_le _,Nat.le_refl _⟩,rfl,rfl,rfl⟩,?_⟩
 rintro ⟨more,rest,w⟩ hlis
 have hlis:q3x text more rest w:=hlis
 have hlw:w.length≤5:=hlis.2.2.1
 have hlr:rest.length≤text.length:=hlis.2.2.2
 dsimp only
 refine bifP (fun hb=>?_) fun hb=>?_
 ·obtain rfl:more=true:=hb
  have bad:Hea.q6o (cutF rest).1=false∨w.length=5→([],false,(5:Int))=Hea.q0n e book text:=fun h=>by
   rw [hh,Hea.lis_bad hlis h]
  have hcl:(cutF rest).1.length≤1000000:=by
   unfold cutF
   split
   ·dsimp only; rw [List.length_take]; omega
   ·dsimp only; omega
  refine ⟨by omega,hcl,bifP (fun hb=>bad (.inl (Hea.q8e (.inl hb)))) fun h1=>bifP (fun hb=>bad (.inl (Hea.q8e (.inr (.inl hb))))) fun h2=>bifP (fun hb=>bad (.inl (Hea.q8e (.inr (.inr (of_decide_eq_true hb)))))) fun h3=>bifP (fun hb=>bad (.inr (by have:=eq_of_beq hb; omega))) fun h4=>?_⟩
  have h5:w.length<5:=by rw [beq_eq_false_iff_ne] at h4; omega
  have hst:=Hea.lis_step hlis (Hea.word_of h1 h2 (of_decide_eq_false h3)) h5
  have hg:(w.length+[(cutF rest).1].length)*16≤140737488355328∧∃ p':Bool×List UInt8×List (List UInt8),q3x text p'.1 p'.2.1 p'.2.2∧((if p'.1=true then p'.2.1.length+1 else 0)<if true=true then rest.length+1 else 0)∧(cutF rest).2.2=p'.1∧(cutF rest).2.1=p'.2.1∧w++[(cutF rest).1]=p'.2.2 :=
   ⟨by rw [List.length_singleton]; omega,((cutF rest).2.2,(cutF rest).2.1,w++[(cutF rest).1]),hst,Hea.lis_less,rfl,rfl,rfl⟩
  exact ⟨hg,hg,hg⟩
 ·obtain rfl:more=false:=hb
  have hv:Hea.q0n e book text=Hea.q0f (Hea.q04 e) e.ws w book []:=by rw [hh,Hea.lis_end hlis]
  have hwl:∀ s∈w,s.length≤1000000:=fun s hs=>by
   have:=List.all_eq_true.1 hlis.2.1 s hs
   unfold Hea.q6o at this
   simp only [Bool.and_eq_true,decide_eq_true_eq] at this
   omega
  exact qie e book w _ _ rfl hp hC hW.2.2 hlw hwl hB.1 hv
end Go.Proofs.YtfecgebhoondjaaGreatDoor
set_option linter.unusedVariables false
namespace Go.Proofs.YtfecgebhoondjaaGreatDoor
open Go.RowKit
open R
theorem inlHe_ok:q0g Tryz.prog inlHe:=q0g.more Tryz.func50 (by kernel_rfl) (by kernel_rfl) (q0g.more Tryz.func97 (by kernel_rfl) (by kernel_rfl) (q0g.more Tryz.func99 (by
  kernel_rfl) (by kernel_rfl) (q0g.more Tryz.func140 (by kernel_rfl) (by kernel_rfl) (q0g.more Tryz.func51 (by kernel_rfl) (by kernel_rfl) (q0g.more
  Tryz.func107 (by kernel_rfl) (by kernel_rfl) (q0g.more Tryz.func102 (by kernel_rfl) (by kernel_rfl) (q0g.more
  Tryz.func103 (by kernel_rfl) (by kernel_rfl) (q0g.more Tryz.func104 (by kernel_rfl) (by kernel_rfl) (q0g.more
  Tryz.func106 (by kernel_rfl) (by kernel_rfl) (q0g.more Tryz.func145 (by kernel_rfl) (by
  kernel_rfl) (q0g.nil)))))))))))
theorem kitHe_ok:kitHe.Ok Tryz.prog where
 cons:=all_cons qe5 (all_cons qgg (all_cons cut_holds (all_cons (show cEqS.lent.Holds Tryz.prog from eqS_holds) all_nil)))
 ns:=all_cons qes all_nil
 os:=all_cons qea all_nil
 fcs:=all_cons qi2 all_nil
 rcs:=all_nil
 inls:=inlHe_ok
set_option maxRecDepth 100000000 in
theorem qia:cHear.Holds Tryz.prog:=by
 refine holdsX (T:=kitHe) (fun p=>anHe hfHear [] ⟨p.1.1,p.1.2,p.2.1⟩ p.2.2.1 p.2.2.2) Tryz.func18 (by kernel_rfl) (by kernel_rfl) mixed (by kernel_rfl) kitHe_ok (fun _=>[]) fun p hp=>?_
 obtain ⟨⟨lang,ws⟩,c,book,text⟩:=p
 refine cast ?_ (hear_vc ⟨lang,ws,c⟩ book text hp)
 kernel_rfl
end Go.Proofs.YtfecgebhoondjaaGreatDoor
set_option linter.unusedVariables false
namespace Go.Proofs.YtfecgebhoondjaaGreatDoor
open Go.RowKit Go.Lib
open R
set_option maxHeartbeats 2000000 in
set_option maxRecDepth 100000 in
theorem cloneG_any (it:TypeInfo) (z:Value) (hi:Tryz.prog.info? 42=some it) (hz0:it.zero=some z) (hz1:it.size=5) (hz2:it.bytes=64) (hzs:z.cells.size=5)
  (ad:Addr) (n c:Nat) (news:List Value) (w:World) (hl:news.length=n*5) (hn:n≤maxLen) (hbig:n*64≤140737488355328) (hc:∀ j u,news[j]? = some u→w.cell? (ad.add j)=some u) (h1:∀ u∈news,u.oneCell'=true) :
  Calls Tryz.prog 55 #[.slice (some ad) n c] w fun e w'=>∃ v',e=.returned v'∧w'.ownsRow w.heap.size 42 5 v' n news∧Below w.heap.size w w':=by
 have t22:=Tryz.underlying26
 have q22:∀ (w:World) (a:Option Addr) (n c n' c':Nat),(binOp .eql 26 (.slice a n c) (.slice none n' c')).run Tryz.prog w=.ok (.bool a.isNone) w:=fun w a n c n' c'=>Lib.run_eql_slice_nil w _ _ a n c n' c' t22
 have u22:∀ w,Sem.run Tryz.prog (underlying 26) w=.ok (TypeDesc.slice 42) w:=run_underlying t22
 have A:Aside (∀ j u,news[j]? = some u→w.cell? (ad.add j)=some u):=hc
 clear hc
 go_enter Tryz.func55,Tryz.ntmps55
 go_wp2_with (at_builtin; refine wpList_append_own _ rfl _ _ 26 rfl w.heap.size 42 it z 5 64 t22 hi hz0 hz1 hz2 hzs (by decide) _ _ _ rfl (World.ownsRow_made w #[] 0 (Nat.le_refl _) (Nat.zero_le _) (by simp)) ad n c news rfl ?qc1 ?qc2 ?qc3 ?qc4 ?qc5 ?qc6 ?_)
 case qc1=>exact hl
 case qc2 =>
  intro j u hj
  exact Lib.cell?_alloc_some _ (A.out j u hj)
 case qc3=>exact h1
 case qc4=>rw [Nat.zero_add]; exact hn
 case qc5=>rw [Nat.zero_add]; exact hbig
 case qc6=>simp
 intro v' w1 hown hgrow hnil
 go_wp2
 go_ret
 refine ⟨v',rfl,by simpa using hown,?_⟩
 exact ((Below.refl _ w).alloc (Nat.le_refl _) _).grown hgrow (by simp) (by intro k hk; simp [Value.ownBlock] at hk; omega)
set_option maxHeartbeats 2000000 in
set_option maxRecDepth 100000 in
theorem cloneG_nil (n c:Nat) (w:World):Calls Tryz.prog 55 #[.slice none n c] w fun e w'=>e=.returned (.slice none 0 0)∧w'=w:=by
 have t22:=Tryz.underlying26
 have q22:∀ (w:World) (a:Option Addr) (n c n' c':Nat),(binOp .eql 26 (.slice a n c) (.slice none n' c')).run Tryz.prog w=.ok (.bool a.isNone) w:=fun w a n c n' c'=>Lib.run_eql_slice_nil w _ _ a n c n' c' t22
 go_enter Tryz.func55,Tryz.ntmps55
 go_wp2
 go_ret
 exact ⟨rfl,rfl⟩
def nCloneG:NCon:={ f:=55,args:=[q5v],e:=42,fs:=kGiv,pre:=fun l _=>List.length l≤1000000,F:=fun l _=>l }
theorem cloneG_holds:nCloneG.Holds Tryz.prog:=by
 refine ⟨⟨_,Tryz.func55,by kernel_rfl,by kernel_rfl⟩,fun p b vs fvs w S hS hpre hvs hfa=>?_⟩
 have hfa:fvs=[]:=hfa
 subst hfa
 obtain ⟨v,rfl,hv⟩:=q11 hvs
 obtain ⟨p,rfl⟩:∃ q:q0d,q=p:=⟨p,rfl⟩
 have hpre:p.length≤1000000:=hpre
 have hv:(Kd.sl kGiv).Rep w S p v:=hv
 obtain ⟨it,z,hi,hz0,hzs,hsz,hby,e1,e2,hone⟩:=q4v (P:=Tryz.prog) (e:=42) (size:=5) (bytes:=64) (by kernel_rfl)
 rcases src_cells hv with ⟨c,rfl,hz⟩ | ⟨ad,c,news,rfl,hl,hc,h1,hrow⟩
 ·refine (cloneG_nil 0 c w).mono ?_
  rintro e w' ⟨rfl,rfl⟩
  have hz:p=[]:=hz
  subst hz
  exact ⟨Below.refl _ _,_,[],rfl,World.ownsRow_nil _ _ _ _,fun i x hx=>by cases hx⟩
 ·have hl:news.length=p.length*5:=hl
  refine (cloneG_any it z hi hz0 e1 e2 (by rw [hzs,e1]) ad p.length c news w hl (by unfold maxLen; omega) (by omega) hc h1).mono ?_
  rintro e w' ⟨v',rfl,ho,hb⟩
  exact ⟨hb,v',news,rfl,ho,hrow⟩
def cHere:Con:=.of 20 [ckWl,ckCf,q5v,ckPt,q30] [q30,q2v,ckErr1] (fun p=>q1g p.1∧q0t p.2.1∧q3y p.2.2.1∧List.length p.2.2.2.2≤1000) (fun p=>Hea.q2l ⟨p.1.1,p.1.2,p.2.1⟩ p.2.2.1 p.2.2.2.1 p.2.2.2.2)
noncomputable def inlHr:List (Nat×Func):=inlHe++[(53,Tryz.f53),(54,Tryz.f54),(108,Tryz.f108)]
noncomputable def kitHr:Kit:={ cons:=[qdi,cAlike,cCut,cEqS.lent,cOn,cDist],ns:=[nCloneS,nCloneG],os:=[qhi],fcs:=[fOdd],inls:=inlHr }
def q88 (l:q0d):Row:=⟨42,kGiv,l⟩
abbrev bkR:Nat:=39000
def hfHere:Hf:={ L:=30000,F:=42000,upL:=[(45,[2,5,8])],upF:=[],boxL:=[5,8] }
def bkHere (book:q0d) (p:Cod.Pt):List (Nat×Row):=[(bkR,q88 (book.filter (Hea.q00 p)))]
abbrev liveHr:List (Nat×List Nat):=[(45,[5,35,36])]
def anFarH (book:q0d) (p:Cod.Pt):List (Nat×Ann) :=
 [annX 0 Nat (fun st k=>st.hd { live:=[0,1,7],sav:=savK 0 ((42,[0,1])::liveHr),box:=[5,8,30011,30002] } [(8,R.int .i64 k)] [] [(bkR,q88 book),(hfHere.wr,q5u (Get.rowS hfHere.wr st))] [] none)
  (fun _ k=>k≤book.length∧(book.take k).all (Hea.q00 p)=true)
  (fun _ k=>book.length-k)]
def q3h (book:q0d) (p:Cod.Pt) (k j:Nat) (l:q0d):Prop:=k<j∧j≤book.length∧l.length=book.length∧l.take k=(book.take j).filter (Hea.q00 p)∧l.drop j=book.drop j
def anDelH (book:q0d) (p:Cod.Pt):List (Nat×Ann) :=
 [annX 0 (Nat×Nat×q0d) (fun st q=>st.hd { live:=[0,1],sav:=savK 0 liveHr,box:=[5,8,30011,30002] } [(5,R.int .i64 q.1),(6,R.int .i64 q.2.1)] [] [(bkR,q88 q.2.2),(hfHere.wr,q5u (Get.rowS hfHere.wr st))] [] none)
  (fun _ q=>q3h book p q.1 q.2.1 q.2.2)
  (fun _ q=>book.length-q.2.1)]
def anHr (e:Cod.Ear) (book:q0d) (p:Cod.Pt) (text:List UInt8):Nat→List (Nat×Ann):=fun f =>
 bif Nat.beq f 54 then anDelH book p
 else bif Nat.beq f 108 then anFarH book p
 else anHe hfHere (bkHere book p) e (book.filter (Hea.q00 p)) text f
end Go.Proofs.YtfecgebhoondjaaGreatDoor

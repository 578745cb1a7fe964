/-
  Several texts in one: HeQ, CoGL, CoGB, CoGC, CoS, CoTL, CoW, CoX, CoZA, CoY, CoZB, CoT, CoZ, CoZC, CoZD, CoZE, CoV, CoHd, CoJ, HeR, HeS, HeT, HeU, HeW, HeX, R15N, Upto.
-/
import Derived.Test.YtfecgebhoondjaaGreatDoorPR
import Derived.Test.YtfecgebhoondjaaGreatDoorPA
import Derived.Test.YtfecgebhoondjaaGreatDoorPQ
import Derived.Test.YtfecgebhoondjaaGreatDoorPN
import Derived.Test.YtfecgebhoondjaaGreatDoorPO
import Derived.Test.YtfecgebhoondjaaGreatDoorPP
import Derived.Test.YtfecgebhoondjaaGreatDoorPB
import Derived.Deep.LoopGhost
import Derived.Lib.OwnBridge
import Derived.Shelf.SlSortCmp.NoneTotal
import Derived.Deep.QuietTactic
import Derived.Test.YtfecgebhoondjaaGreatDoorPL
import Derived.OpenShut
import Derived.Test.YtfecgebhoondjaaGreatDoorRows
set_option linter.unusedVariables false
namespace Go.Proofs.YtfecgebhoondjaaGreatDoor
open Go.RowKit
open R
theorem q0g.app {P:Program}:∀ {l m:List (Nat×Func)},q0g P l→q0g P m→q0g P (l++m)
 | [],m,_,h=>h
 | (k,fn)::l,m,hl,hm=>fun f g hg=>by
  rw [List.cons_append,look?_cons] at hg
  split at hg
  ·rename_i e
   subst e
   exact hl k g (by rw [look?_cons,if_pos rfl]; exact hg)
  ·rename_i hne
   by_cases hin:∃ y,look? f l=some y
   ·obtain ⟨y,hy⟩:=hin
    have:∀ {l m:List (Nat×Func)},look? f l=some y→look? f (l++m)=some y:=fun {l m} h=>by
     induction l with
     | nil=>cases h
     | cons z l ih =>
      obtain ⟨k2,f2⟩:=z
      rw [List.cons_append,look?_cons]
      rw [look?_cons] at h
      split
      ·rename_i e2; rw [if_pos e2] at h; exact h
      ·rename_i e2; rw [if_neg e2] at h; exact ih h
    rw [this hy] at hg
    injection hg with hg
    subst hg
    exact hl f y (by rw [look?_cons,if_neg hne]; exact hy)
   ·have:∀ {l m:List (Nat×Func)},(¬ ∃ y,look? f l=some y)→look? f (l++m)=look? f m:=fun {l m} h=>by
     induction l with
     | nil=>rfl
     | cons z l ih =>
      obtain ⟨k2,f2⟩:=z
      rw [look?_cons] at h
      rw [List.cons_append,look?_cons]
      split
      ·rename_i e2; exact absurd ⟨f2,by rw [if_pos e2]⟩ h
      ·rename_i e2
       refine ih fun ⟨y,hy⟩=>h ⟨y,by rw [if_neg e2]; exact hy⟩
    rw [this hin] at hg
    exact hm f g hg
theorem kitHr_ok:kitHr.Ok Tryz.prog where
 cons:=all_cons q9q (all_cons qgf (all_cons cut_holds (all_cons (show cEqS.lent.Holds Tryz.prog from eqS_holds) (all_cons qhz (all_cons qiq all_nil)))))
 ns:=all_cons qfh (all_cons cloneG_holds all_nil)
 os:=all_cons qe2 all_nil
 fcs:=all_cons qit all_nil
 rcs:=all_nil
 inls:=q0g.app inlHe_ok (q0g.more Tryz.func53 (by kernel_rfl) (by kernel_rfl) (q0g.more Tryz.func54 (by kernel_rfl) (by kernel_rfl) (q0g.more Tryz.func108 (by kernel_rfl) (by kernel_rfl) q0g.nil)))
set_option maxRecDepth 100000000 in
theorem here_holds:cHere.Holds Tryz.prog:=by
 refine holdsX (T:=kitHr) (fun p=>anHr ⟨p.1.1,p.1.2,p.2.1⟩ p.2.2.1 p.2.2.2.1 p.2.2.2.2) Tryz.func20 (by kernel_rfl) (by kernel_rfl) mixed (by kernel_rfl) kitHr_ok (fun _=>[q9a 7]) fun p hp=>?_
 obtain ⟨⟨lang,ws⟩,c,book,pt,text⟩:=p
 refine cast ?_ (here_vc ⟨lang,ws,c⟩ book pt text hp)
 kernel_rfl
end Go.Proofs.YtfecgebhoondjaaGreatDoor
set_option linter.unusedVariables false
namespace Go.Proofs.YtfecgebhoondjaaGreatDoor
namespace Cod
theorem bump_app {n:Int}:∀ (a r:List Int),a.all (fun d=>decide (n≤d+1))=true→bump n (a++r)=(List.replicate a.length 0++(bump n r).1,(bump n r).2)
 | [],r,_=>rfl
 | d::a,r,h=>by
  rw [List.all_cons,Bool.and_eq_true,decide_eq_true_eq] at h
  rw [List.cons_append,bump,decide_eq_false (by omega),bump_app a r h.2]
  rfl
theorem all_rev {α:Type} (p:α→Bool) (l:List α):l.reverse.all p=l.all p:=List.all_reverse
theorem next_end {n:Int} {l:List Int} (ht:(l.drop (l.length-l.length)).all (fun d=>decide (n≤d+1))=true):(nextL n l).2=false:=by
 rw [Nat.sub_self,List.drop_zero] at ht
 unfold nextL
 have:=bump_app l.reverse [] (by rw [all_rev]; exact ht)
 rw [List.append_nil] at this
 rw [this]; rfl
end Cod
end Go.Proofs.YtfecgebhoondjaaGreatDoor
set_option linter.unusedVariables false
namespace Go.Proofs.YtfecgebhoondjaaGreatDoor
open Go.RowKit
open R
end Go.Proofs.YtfecgebhoondjaaGreatDoor
set_option linter.unusedVariables false
namespace Go.Proofs.YtfecgebhoondjaaGreatDoor
open Go.RowKit
open R
end Go.Proofs.YtfecgebhoondjaaGreatDoor
set_option linter.unusedVariables false
namespace Go.Proofs.YtfecgebhoondjaaGreatDoor
open Go.RowKit
open R
end Go.Proofs.YtfecgebhoondjaaGreatDoor
set_option linter.unusedVariables false
namespace Go.Proofs.YtfecgebhoondjaaGreatDoor
open Go.RowKit
open R
theorem part_len (e:Cod.Ear) (code:List Int) (i k:Nat) (hw:e.ws.length≤1000000):(q3b e code i k).length≤1000000:=by
 unfold q3b
 rw [List.length_map]
 have h1:=List.length_filter_le (fun x=>!(x==code.getD i 0)) ((e.near (code.getD i 0)).take k)
 have h2:=qhg e (code.getD i 0)
 rw [List.length_take] at h1
 omega
theorem qic (e:Cod.Ear) (code:List Int) (i:Nat) (hw:e.ws.length≤1000000):(e.q3w code i).length≤1000002:=by
 rw [qf7 (Nat.le_refl _),List.length_append,List.length_cons]
 have:=part_len e code i (e.near (code.getD i 0)).length hw
 split
 ·rw [List.length_nil]; omega
 ·rw [List.length_singleton]; omega
end Go.Proofs.YtfecgebhoondjaaGreatDoor
set_option linter.unusedVariables false
namespace Go.Proofs.YtfecgebhoondjaaGreatDoor
open Go.RowKit Go.Lib
open R
def IntsIn (w:World) (ok:Nat→Prop) (A:Option Addr) (n:Nat) (xs:List Int):Prop :=
 n=xs.length∧(0<n→∃ g off,A=some ⟨g,off,none⟩∧g<w.heap.size∧ok g∧∀ j,j<xs.length→w.cell? ⟨g,off+j,none⟩=some (.int .i64 (xs.getD j 0)))
end Go.Proofs.YtfecgebhoondjaaGreatDoor
set_option linter.unusedVariables false
namespace Go.Proofs.YtfecgebhoondjaaGreatDoor
open Go.RowKit Go.Lib Go.Sort
open R
structure SV (w:World) (S:Nat→Prop) where
 A:Option Addr
 c:Nat
 l:List Int
 small:l.length≤9223372036854775807
 cap:l.length≤c
 ok:IntsIn w S A l.length l
instance (w:World) (S:Nat→Prop):Inhabited (SV w S):=⟨⟨none,0,[],Nat.zero_le _,Nat.le_refl _,rfl,fun h=>absurd h (Nat.lt_irrefl _)⟩⟩
def SV.enc {w:World} {S:Nat→Prop} (x:SV w S):Value:=.slice x.A x.l.length x.c
end Go.Proofs.YtfecgebhoondjaaGreatDoor
set_option linter.unusedVariables false
namespace Go.Proofs.YtfecgebhoondjaaGreatDoor
open Go.RowKit Go.Lib Go.Sort
open R
end Go.Proofs.YtfecgebhoondjaaGreatDoor
set_option linter.unusedVariables false
namespace Go.Proofs.YtfecgebhoondjaaGreatDoor
open Go.RowKit Go.Lib Go.Sort
open R
end Go.Proofs.YtfecgebhoondjaaGreatDoor
set_option linter.unusedVariables false
namespace Go.Proofs.YtfecgebhoondjaaGreatDoor
open Go.RowKit Go.Lib Go.Sort
open R
end Go.Proofs.YtfecgebhoondjaaGreatDoor
set_option linter.unusedVariables false
namespace Go.Proofs.YtfecgebhoondjaaGreatDoor
open Go.RowKit
open R
end Go.Proofs.YtfecgebhoondjaaGreatDoor
set_option linter.unusedVariables false
namespace Go.Proofs.YtfecgebhoondjaaGreatDoor
open Go.RowKit
open R
end Go.Proofs.YtfecgebhoondjaaGreatDoor
set_option linter.unusedVariables false
namespace Go.Proofs.YtfecgebhoondjaaGreatDoor
open Go.RowKit Go.Lib Go.Sort
open R
end Go.Proofs.YtfecgebhoondjaaGreatDoor
set_option linter.unusedVariables false
namespace Go.Proofs.YtfecgebhoondjaaGreatDoor
open Go.RowKit
open R
end Go.Proofs.YtfecgebhoondjaaGreatDoor
set_option linter.unusedVariables false
namespace Go.Proofs.YtfecgebhoondjaaGreatDoor
open Go.RowKit
open R
end Go.Proofs.YtfecgebhoondjaaGreatDoor
set_option linter.unusedVariables false
namespace Go.Proofs.YtfecgebhoondjaaGreatDoor
open Go.RowKit
open R
theorem word_len {lang:List UInt8} {ws:List (List UInt8)} (h:Snd.q0n lang ws=true) (i:Nat):(ws.getD i []).length≤8:=by
 unfold Snd.q0n at h
 simp only [Bool.and_eq_true,List.all_eq_true] at h
 by_cases hi:i<ws.length
 ·have:=h.2.2.2.1 _ (Snd.q1r ws [] i hi)
  unfold Snd.q0j at this
  simp only [Bool.and_eq_true,decide_eq_true_eq] at this
  omega
 ·rw [List.getD_eq_getElem?_getD,List.getElem?_eq_none (by omega)]; exact Nat.zero_le _
theorem joinC_len {lang:List UInt8} {ws:List (List UInt8)} (h:Snd.q0n lang ws=true):∀ code:List Int,(Cod.qab ws code).length≤code.length*9
 | []=>Nat.zero_le _
 | [i]=>by
  have:=word_len h i.toNat
  show (ws.getD i.toNat []).length≤1*9
  omega
 | i::j::r=>by
  have ih:=joinC_len h (j::r)
  have:=word_len h i.toNat
  show (ws.getD i.toNat []++[32]++Cod.qab ws (j::r)).length≤(r.length+1+1)*9
  rw [List.length_append,List.length_append,List.length_singleton]
  have:(j::r).length=r.length+1:=rfl
  rw [this] at ih
  omega
set_option maxRecDepth 100000 in
theorem text41_vc (lang:List UInt8) (ws:List (List UInt8)) (code:List Int) (h:cText41.pre ((lang,ws),code)) :
  (q13 (lang,ws)∧code.length≤(1000000:Nat))∧bif !Cod.q2a lang ws code then ([],(1:Int))=Cod.q5m lang ws code else (∃ (p':Nat×List (List UInt8)),(p'.1≤code.length ∧
  p'.2=q5h ws (List.take p'.1 code))∧(True∧(0:Int)=(p'.1:Int)∧True∧code=code∧(code.length:Int)=(code.length:Int)∧True)∧((lang=lang∧ws=ws∧True) ∧
  True)∧(p'.2=[]∧True)∧True∧True∧True∧True∧True∧True∧True)∧∀ (p:Nat×List (List UInt8)),p.1≤code.length∧p.2=q5h ws (List.take p.1 code)→bif decide ((↑p.1
  : Int)<(code.length:Int)) then ((0:Int)≤(p.1:Int)∧(p.1:Int)<(code.length:Int))∧((0:Int)≤code.getD (p.1:Int).toNat (0:Int)∧code.getD (p.1:Int).toNat (0 :
  Int)<(ws.length:Int))∧(p.2.length+[ws.getD (code.getD (p.1:Int).toNat (0:Int)).toNat []].length)*(16:Nat)≤(140737488355328:Nat)∧((-9223372036854775808:Int)≤(↑p.1
  : Int)+(1:Int)∧(p.1:Int)+(1:Int)≤(9223372036854775807:Int))∧∃ (p':Nat×List (List UInt8)),(p'.1≤code.length∧p'.2=q5h ws (List.take p'.1 code))∧code.length
  - p'.1<code.length-p.1∧(True∧(p.1:Int)+(1:Int)=(p'.1:Int)∧True∧code=code∧(code.length:Int)=(code.length:Int)∧True)∧((lang=lang∧ws=ws∧True) ∧
  True)∧(p.2++[ws.getD (code.getD (p.1:Int).toNat (0:Int)).toNat []]=p'.2∧True)∧True∧True∧True∧True∧True∧True∧True else (p.2.length≤(1000000:Nat)∧(Lib.join p.2
  [(32:UInt8)]).length≤(1000000:Nat))∧(Lib.join p.2 [(32:UInt8)],(0:Int))=Cod.q5m lang ws code
  := by
 obtain ⟨hW,h1⟩:=h
 have hW:q13 (lang,ws):=hW
 have h1:code.length≤1000000:=h1
 simp only [true_and,and_true,eq_self,and_self,Int.toNat_natCast]
 refine ⟨⟨hW,h1⟩,bifP (fun hcd=>by unfold Cod.q5m; rw [qa0 hcd]; rfl) fun hcd=>?_⟩
 have hcd:=q93 hcd
 obtain ⟨⟨hg3,hg5⟩,hin⟩:=code_in hcd
 have hv:Snd.q0n lang ws=true:=by
  unfold Cod.q2a at hcd
  rw [Bool.and_eq_true] at hcd
  exact hcd.1
 refine ⟨⟨(0,[]),⟨Nat.zero_le _,rfl⟩,by and_intros <;> rfl⟩,?_⟩
 rintro ⟨k,ss⟩ ⟨hk,hs⟩
 dsimp only at *
 subst hs
 have hl:(q5h ws (code.take k)).length≤5:=by
  unfold q5h
  rw [List.length_map,List.length_take]
  omega
 refine bifP (fun hkl=>?_) fun hkl=>?_
 ·have hkl:k<code.length:=by have:=of_decide_eq_true hkl; omega
  obtain ⟨hw0,hw1⟩:=hin k hkl
  refine ⟨⟨by omega,by omega⟩,⟨hw0,hw1⟩,by rw [List.length_singleton]; omega,⟨by omega,by omega⟩,(k+1,_),⟨by omega,?_⟩,by omega,by and_intros <;> first | rfl | omega⟩
  unfold q5h
  rw [Snd.q21 code 0 k hkl,List.map_append]; rfl
 ·have hkl:=of_decide_eq_false hkl
  rw [List.take_of_length_le (l:=code) (i:=k) (by omega)] at *
  rw [qip]
  have:=joinC_len hv code
  refine ⟨⟨by omega,by omega⟩,?_⟩
  unfold Cod.q5m
  rw [hcd]; rfl
set_option maxRecDepth 100000 in
theorem text41_holds:cText41.Holds Tryz.prog:=by
 refine q2x (cons:=[qfo,cJoinS]) Tryz.func28 (by kernel_rfl) (by kernel_rfl) mixed (by kernel_rfl) (all_cons qen (all_cons joinS_holds all_nil)) (fun p=>anText41 p.1.2 p.2) fun p hp=>?_
 obtain ⟨⟨lang,ws⟩,code⟩:=p
 refine cast ?_ (text41_vc lang ws code hp)
 kernel_rfl
end Go.Proofs.YtfecgebhoondjaaGreatDoor
set_option linter.unusedVariables false
namespace Go.Proofs.YtfecgebhoondjaaGreatDoor
open Go.RowKit
open R
end Go.Proofs.YtfecgebhoondjaaGreatDoor
set_option linter.unusedVariables false
namespace Go.Proofs.YtfecgebhoondjaaGreatDoor
open Go.RowKit
open R
theorem few_out41 {lang:List UInt8} {ws:List (List UInt8)} {c:CfP} {book:q0f} {m:Int} (h:q5k (lang,ws) c book m=true):q13 (lang,ws)∧q0u c∧(∀ g∈book,g.2.1.length≤8∧g.1.length≤60)∧(book.length:Int)≤m∧ws.length≤8:=by
 unfold q5k q6p q6b at h
 simp only [Bool.and_eq_true,List.all_eq_true,decide_eq_true_eq] at h
 obtain ⟨⟨h1,h2,h3⟩,⟨h4,h5⟩,h6,h7,h8,h9⟩:=h
 exact ⟨⟨by show lang.length≤_; omega,by show ws.length≤_; omega,fun s hs=>Nat.le_trans (h3 s hs) (by omega)⟩,⟨by omega,fun x hx=>by have:=h5 x hx; omega⟩,h9,h8,h6⟩
theorem longB_of {book:q0f} {m:Int} (h:∀ g∈book,g.2.1.length≤8∧g.1.length≤60) (hm:(book.length:Int)≤m) (hm2:m≤1000):q4p book:=⟨by omega,fun g hg=>by have:=h g hg; omega⟩
theorem any_eq_false {l:List (List Int)} {x:List Int} (h:x ∉ l):l.any (fun y=>y==x)=false:=by
 rw [List.any_eq_false]
 intro y hy
 rw [beq_iff_eq]
 rintro rfl
 exact h hy
end Go.Proofs.YtfecgebhoondjaaGreatDoor
set_option linter.unusedVariables false
namespace Go.Proofs.YtfecgebhoondjaaGreatDoor
open Go.RowKit
open R
def fewH (l:WlP) (c:CfP) (book:q0f) (text:List UInt8):Bool:=q5k l c book 8&&decide (text.length≤100)
def cFew42:Con:=.of 17 [ckWl,ckCf,q7p,q27] [q37] (fun _=>True) (fun p=>fewH p.1 p.2.1 p.2.2.1 p.2.2.2)
def bk42:q0f:=[([101,49],[0,0,3],false,0,0),([101,50],[1,3,0],false,0,0)]
def q1o:List (List UInt8):=[[98,97,100,32,98,97,100,32,115,101,97],[98,97,100,32,112,97,100,32,115,101,97],[98,97,100,32,115,101,97],[98,97,100,32,115,101,97,32,98,97,100],[115,101,97,32,98,97,110,32,98,97,100],[112,97,110,32,115,101,97,32,98,97,100]]
def q2w:List (List UInt8):=[[101,49],[101,49],[101,49],[101,49],[101,50],[101,50]]
def wd42:List (List UInt8):=[[98,97,100],[98,97,110],[112,97,110],[115,101,97]]
def cf42:CfP:=[([98],[112])]
def e42:Cod.Ear:=⟨[101,110],wd42,cf42⟩
def confRow (l:CfP):Row:=⟨72,kCf,l⟩
def cHead42:Con:=.of 16 [] [q37] (fun _=>True) (fun _=>true)
def anHead42:List (Nat×Ann) :=
 [annX 0 Nat (fun st k=>st.hd { live:=[1,2,3,5,6],sav:=[],box:=[1] } [(4,R.bool true),(7,R.int .i64 k)] [] [(20,q5p wd42),(23,confRow cf42),(28,qat bk42),(29,q5p q1o),(30,q5p q2w)] [] none)
  (fun _ k=>k≤6)
  (fun _ k=>6-k),
 q9a 10]
theorem ex_hear0:Hea.q09 e42 bk42 (q1o.getD 0 [])=(q2w.getD 0 [],false,0):=by kernel_rfl
theorem ex_hear1:Hea.q09 e42 bk42 (q1o.getD 1 [])=(q2w.getD 1 [],true,0):=by kernel_rfl
theorem ex_hear2:Hea.q09 e42 bk42 (q1o.getD 2 [])=(q2w.getD 2 [],true,0):=by kernel_rfl
theorem ex_hear3:Hea.q09 e42 bk42 (q1o.getD 3 [])=(q2w.getD 3 [],true,0):=by kernel_rfl
theorem ex_hear4:Hea.q09 e42 bk42 (q1o.getD 4 [])=(q2w.getD 4 [],true,0):=by kernel_rfl
theorem ex_hear5:Hea.q09 e42 bk42 (q1o.getD 5 [])=(q2w.getD 5 [],true,0):=by kernel_rfl
theorem ex_hear {k:Nat} (hk:k<6):Hea.q09 e42 bk42 (q1o.getD k [])=(q2w.getD k [],decide ((0:Int)<(k:Int)),0):=by
 match k with
 | 0=>exact ex_hear0
 | 1=>exact ex_hear1
 | 2=>exact ex_hear2
 | 3=>exact ex_hear3
 | 4=>exact ex_hear4
 | 5=>exact ex_hear5
 | n+6=>omega
end Go.Proofs.YtfecgebhoondjaaGreatDoor
set_option linter.unusedVariables false
namespace Go.Proofs.YtfecgebhoondjaaGreatDoor
open Go.RowKit
open R
theorem fewH_out {lang:List UInt8} {ws:List (List UInt8)} {c:CfP} {book:q0f} {text:List UInt8} (h:fewH (lang,ws) c book text=true):q13 (lang,ws)∧q0u c∧q4p book∧text.length≤100∧book.length≤8:=by
 unfold fewH at h
 rw [Bool.and_eq_true,decide_eq_true_eq] at h
 obtain ⟨hW,hC,hg,hl,hws⟩:=few_out41 h.1
 exact ⟨hW,hC,longB_of hg hl (by omega),h.2,by omega⟩
theorem few42_vc (lang:List UInt8) (ws:List (List UInt8)) (c:CfP) (book:q0f) (text:List UInt8) (h:cFew42.pre ((lang,ws),c,book,text)) :
  (8:Int)≤(1000:Int)∧bif q5k (lang,ws) c book (8:Int) then decide ((text.length:Int)≤(100:Int))=fewH (lang,ws) c book text else false=fewH (lang,ws) c book text
  := by
 refine ⟨by omega,bifP (fun hb=>?_) fun hb=>?_⟩
 ·unfold fewH
  rw [hb,Bool.true_and]
  exact decide_eq_decide.2 (by omega)
 ·unfold fewH
  rw [hb]; rfl
abbrev qbz:Prop :=
 (([(101:UInt8),(110:UInt8)]=[(101:UInt8),(110:UInt8)]∧True∧True)∧True)
set_option maxRecDepth 100000 in
theorem head42_vc (h:cHead42.pre ()) :
  (∃ (p':Nat),p'≤(6:Nat)∧(true=true∧(0:Int)=(p':Int)∧True∧True∧True∧True∧True∧True)∧qbz∧([[(98:UInt8),(97:UInt8),(100:UInt8)],[(98:UInt8),(97:UInt8),(110:UInt8)],[(112:UInt8),(97:UInt8),(110:UInt8)],[(115:UInt8),(101:UInt8),(97:UInt8)]]=wd42∧[([(98:UInt8)],[(112:UInt8)])]=cf42∧[([(101:UInt8),(49:UInt8)],[(0:Int),(0:Int),(3:Int)],false,(0:Int),(0:Int)),([(101:UInt8),(50:UInt8)],[(1:Int),(3:Int),(0:Int)],false,(0:Int),(0:Int))]=bk42∧[[(98:UInt8),(97:UInt8),(100:UInt8),(32:UInt8),(98:UInt8),(97:UInt8),(100:UInt8),(32:UInt8),(115:UInt8),(101:UInt8),(97:UInt8)],[(98:UInt8),(97:UInt8),(100:UInt8),(32:UInt8),(112:UInt8),(97:UInt8),(100:UInt8),(32:UInt8),(115:UInt8),(101:UInt8),(97:UInt8)],[(98:UInt8),(97:UInt8),(100:UInt8),(32:UInt8),(115:UInt8),(101:UInt8),(97:UInt8)],[(98:UInt8),(97:UInt8),(100:UInt8),(32:UInt8),(115:UInt8),(101:UInt8),(97:UInt8),(32:UInt8),(98:UInt8),(97:UInt8),(100:UInt8)],[(115:UInt8),(101:UInt8),(97:UInt8),(32:UInt8),(98:UInt8),(97:UInt8),(110:UInt8),(32:UInt8),(98:UInt8),(97:UInt8),(100:UInt8)],[(112:UInt8),(97:UInt8),(110:UInt8),(32:UInt8),(115:UInt8),(101:UInt8),(97:UInt8),(32:UInt8),(98:UInt8),(97:UInt8),(100:UInt8)]]=q1o∧[[(101:UInt8),(49:UInt8)],[(101:UInt8),(49:UInt8)],[(101:UInt8),(49:UInt8)],[(101:UInt8),(49:UInt8)],[(101:UInt8),(50:UInt8)],[(101:UInt8),(50:UInt8)]]=q2w∧True)∧True∧True∧True∧True∧True∧True∧True)∧∀ (p:Nat),p≤(6:Nat)→bif decide ((p:Int)<(q1o.length:Int)) then (0≤(p:Int)∧(p:Int)<(q1o.length:Int))∧(q13 ([(101:UInt8),(110:UInt8)],wd42)∧q0u cf42∧q4p bk42∧(q1o.getD (p:Int).toNat []).length≤(1000:Nat))∧bif (Hea.q09 { lang:=[(101:UInt8),(110:UInt8)],ws:=wd42,c:=cf42 } bk42 (q1o.getD (p:Int).toNat [])).2.2==(0:Int) then (0≤(p:Int)∧(p:Int)<(q2w.length:Int))∧bif (Hea.q09 { lang:=[(101:UInt8),(110:UInt8)],ws:=wd42,c:=cf42 } bk42 (q1o.getD (p:Int).toNat [])).1==q2w.getD (p:Int).toNat [] then (zFit ((p:Int)+1))∧∃ (p':Nat),p'≤(6:Nat)∧(6:Nat)-p'<(6:Nat)-p∧(((Hea.q09 { lang:=[(101:UInt8),(110:UInt8)],ws:=wd42,c:=cf42 } bk42 (q1o.getD (p:Int).toNat [])).2.1==decide (0<(p:Int)))=true∧(p:Int)+1=(p':Int)∧True∧True∧True∧True∧True∧True)∧qbz∧(wd42=wd42∧cf42=cf42∧bk42=bk42∧q1o=q1o∧q2w=q2w∧True)∧True∧True∧True∧True∧True∧True∧True else (zFit ((p:Int)+1))∧∃ (p':Nat),p'≤(6:Nat)∧(6:Nat)-p'<(6:Nat)-p∧(false=true∧(p:Int)+1=(p':Int)∧True∧True∧True∧True∧True∧True)∧qbz∧(wd42=wd42∧cf42=cf42∧bk42=bk42∧q1o=q1o∧q2w=q2w∧True)∧True∧True∧True∧True∧True∧True∧True else (zFit ((p:Int)+1))∧∃ (p':Nat),p'≤(6:Nat)∧(6:Nat)-p'<(6:Nat)-p∧(false=true∧(p:Int)+1=(p':Int)∧True∧True∧True∧True∧True∧True)∧qbz∧(wd42=wd42∧cf42=cf42∧bk42=bk42∧q1o=q1o∧q2w=q2w∧True)∧True∧True∧True∧True∧True∧True∧True else (q13 ([(101:UInt8),(110:UInt8)],wd42)∧q0u cf42∧q4p bk42∧[(98:UInt8),(97:UInt8),(110:UInt8),(32:UInt8),(98:UInt8),(97:UInt8),(110:UInt8),(32:UInt8),(98:UInt8),(97:UInt8),(110:UInt8)].length≤(1000:Nat))∧(q13 ([(101:UInt8),(110:UInt8)],wd42)∧q0u cf42∧q4p bk42∧[(98:UInt8),(97:UInt8),(100:UInt8),(32:UInt8),(32:UInt8),(115:UInt8),(101:UInt8),(97:UInt8)].length≤(1000:Nat))∧(q13 ([(101:UInt8),(110:UInt8)],wd42)∧q0u cf42∧q4p bk42∧[(98:UInt8),(97:UInt8),(100:UInt8),(32:UInt8),(98:UInt8),(97:UInt8),(100:UInt8),(32:UInt8),(115:UInt8),(101:UInt8),(97:UInt8)].length≤(1000:Nat))∧((10:Int)==(10:Int))=true:=by
 delta qbz zFit
 have hlong:q13 ([101,110],wd42)∧q0u cf42∧q4p bk42:=by
  refine ⟨⟨by decide,by decide,by decide⟩,⟨by decide,by decide⟩,by decide,by decide⟩
 simp only [true_and,and_true]
 refine ⟨⟨0,by omega,rfl,rfl,rfl,rfl,rfl,rfl⟩,?_⟩
 intro k hk
 have hti:((k:Int).toNat)=k:=rfl
 simp only [hti]
 have hs6:q1o.length=6:=rfl
 have hw6:q2w.length=6:=rfl
 refine bifP (fun hb=>?_) fun hb=>?_
 ·have hlt:k<6:=by have:=of_decide_eq_true hb; omega
  have hx:Hea.q09 ⟨[101,110],wd42,cf42⟩ bk42 (q1o.getD k [])=(q2w.getD k [],decide ((0:Int)<(k:Int)),0):=ex_hear hlt
  rw [hx]
  have hsl:∀ s∈q1o,s.length≤1000:=by decide
  refine ⟨⟨by omega,by omega⟩,⟨hlong.1,hlong.2.1,hlong.2.2,hsl _ (Snd.q1r q1o [] k (by omega))⟩,bifP (fun _=>⟨⟨by omega,by omega⟩,bifP (fun _=>⟨⟨by omega,by omega⟩,k+1,by omega,by omega,beq_self_eq_true _,by push_cast; rfl⟩) fun hf=>?_⟩) fun hf=>by simp at hf⟩
  rw [beq_self_eq_true] at hf; cases hf
 ·exact ⟨⟨hlong.1,hlong.2.1,hlong.2.2,by decide⟩,⟨hlong.1,hlong.2.1,hlong.2.2,by decide⟩,⟨hlong.1,hlong.2.1,hlong.2.2,by decide⟩,rfl⟩
end Go.Proofs.YtfecgebhoondjaaGreatDoor
set_option linter.unusedVariables false
namespace Go.Proofs.YtfecgebhoondjaaGreatDoor
open Go.RowKit
open R
set_option maxRecDepth 100000 in
theorem few42_holds:cFew42.Holds Tryz.prog:=by
 refine q2x (cons:=[cFew41]) Tryz.func17 (by kernel_rfl) (by kernel_rfl) mixed (by kernel_rfl) (all_cons few41_holds all_nil) (fun _=>[]) fun p hp=>?_
 obtain ⟨⟨lang,ws⟩,c,book,text⟩:=p
 refine cast ?_ (few42_vc lang ws c book text hp)
 kernel_rfl
set_option maxRecDepth 100000 in
theorem head42_holds:cHead42.Holds Tryz.prog:=by
 refine q2x (cons:=[cHear.lent,cHere.lent]) Tryz.func16 (by kernel_rfl) (by kernel_rfl) mixed (by kernel_rfl) (all_cons (show cHear.lent.Holds Tryz.prog from qj3) (all_cons (show cHere.lent.Holds Tryz.prog from here_holds) all_nil)) (fun _=>anHead42) fun p hp=>?_
 refine cast ?_ (head42_vc hp)
 kernel_rfl
end Go.Proofs.YtfecgebhoondjaaGreatDoor
set_option linter.unusedVariables false
namespace Go.Proofs.YtfecgebhoondjaaGreatDoor
open Go.RowKit
open R
def cHFur:Con:=.of 6 [ckWl,ckCf,q7p,ckGiv,q27] [q37] (fun p=>CK.Big ckWl p.1∧CK.Big ckCf p.2.1∧CK.Big q7p p.2.2.1∧CK.Big ckGiv p.2.2.2.1∧CK.Big q27 p.2.2.2.2∧List.length p.2.2.1≤1048576) (fun _=>true)
def anHFur (book:q0f) (g:Cod.Giv):List (Nat×Ann) :=
 [annX 2000003 Unit (fun st _=>st.hd { live:=[1,2,4,5,8,11],sav:=[],box:=[5,8] } [(12,ownAV 22)] [] [(22,qat (book++[g]))] [] none) (fun _ _=>True) (fun _ _=>0)]
def consHFur:List Con:=[cHead42,cFew42,qao,cHear,cText41]
end Go.Proofs.YtfecgebhoondjaaGreatDoor
set_option linter.unusedVariables false
namespace Go.Proofs.YtfecgebhoondjaaGreatDoor
open Go.RowKit
open R
abbrev qfk (e:Cod.Ear) (g:Cod.Giv):Prop :=
 ((e.lang=e.lang∧e.ws=e.ws∧True)∧(g.1=g.1∧g.2.1=g.2.1∧g.2.2.1=g.2.2.1∧g.2.2.2.1=g.2.2.2.1∧g.2.2.2.2=g.2.2.2.2∧True)∧True)
set_option maxRecDepth 100000 in
theorem hfur_vc (e:Cod.Ear) (book:q0f) (g:Cod.Giv) (text:List UInt8) (h:cHFur.pre ((e.lang,e.ws),e.c,book,g,text)) :
  True∧((((([]:List Cod.Giv).length+List.length book)*(64:Nat)≤(140737488355328:Nat)∧((([]:List Cod.Giv)++book).length+[g].length)*(64:Nat)≤(140737488355328:Nat)∧∃ (p':Unit),True∧(True∧e.c=e.c∧book=book∧text=text∧True∧True∧true=true∧True)∧(qfk e g)∧(([]:List Cod.Giv)++book++[g]=book++[g]∧True)∧True∧True∧True∧True∧True∧True∧True)∧(([]:List Cod.Giv).length+List.length book)*(64:Nat)≤(140737488355328:Nat)∧((([]:List Cod.Giv)++book).length+[g].length)*(64:Nat)≤(140737488355328:Nat)∧∃ (p':Unit),True∧(True∧e.c=e.c∧book=book∧text=text∧True∧True∧true=true∧True)∧(qfk e g)∧(([]:List Cod.Giv)++book++[g]=book++[g]∧True)∧True∧True∧True∧True∧True∧True∧True)∧(([]:List Cod.Giv).length+List.length book)*(64:Nat)≤(140737488355328:Nat)∧((([]:List Cod.Giv)++book).length+[g].length)*(64:Nat)≤(140737488355328:Nat)∧∃ (p':Unit),True∧(True∧e.c=e.c∧book=book∧text=text∧True∧True∧true=true∧True)∧(qfk e g)∧(([]:List Cod.Giv)++book++[g]=book++[g]∧True)∧True∧True∧True∧True∧True∧True∧True)∧∀ (p:Unit),True→True∧bif !fewH (e.lang,e.ws) e.c (book++[g]) text then true=true else (q13 (e.lang,e.ws)∧q0u e.c∧q4p (book++[g]))∧bif !e.proper (book++[g]) then true=true else (q13 (e.lang,e.ws)∧q0u e.c∧q4p book∧text.length≤(1000:Nat))∧(q13 (e.lang,e.ws)∧q0u e.c∧q4p (book++[g])∧text.length≤(1000:Nat))∧bif (Hea.q09 e (book++[g]) text).2.2==(0:Int) then bif !(Hea.q09 e (book++[g]) text).2.1 then bif (Hea.q09 e (book++[g]) text).1==g.1 then (q13 (e.lang,e.ws)∧g.2.1.length≤(1000000:Nat))∧bif (Hea.q09 e book text).2.2 != (0:Int) then bif (Cod.q5m e.lang e.ws g.2.1).2==(0:Int) then ((Cod.q5m e.lang e.ws g.2.1).1==text)=true else false=true else bif (Hea.q09 e book text).2.1 then bif (Cod.q5m e.lang e.ws g.2.1).2==(0:Int) then ((Cod.q5m e.lang e.ws g.2.1).1==text)=true else false=true else false=true else bif (Hea.q09 e book text).2.2==(0:Int) then bif (Hea.q09 e (book++[g]) text).2.2==(0:Int) then bif (Hea.q09 e book text).1==(Hea.q09 e (book++[g]) text).1 then bif (Hea.q09 e book text).2.1==(Hea.q09 e (book++[g]) text).2.1 then true=true else bif (Hea.q09 e book text).2.1 then ((Hea.q09 e (book++[g]) text).2.2==(8:Int))=true else false=true else bif (Hea.q09 e book text).2.1 then ((Hea.q09 e (book++[g]) text).2.2==(8:Int))=true else false=true else bif (Hea.q09 e book text).2.1 then ((Hea.q09 e (book++[g]) text).2.2==(8:Int))=true else false=true else bif (Hea.q09 e book text).2.2==(8:Int) then ((Hea.q09 e (book++[g]) text).2.2==(8:Int))=true else bif (Hea.q09 e book text).2.2==(10:Int) then bif (Hea.q09 e (book++[g]) text).2.2==(10:Int) then true=true else bif (Hea.q09 e (book++[g]) text).2.2==(0:Int) then bif (Hea.q09 e (book++[g]) text).2.1 then ((Hea.q09 e (book++[g]) text).1==g.1)=true else false=true else false=true else bif (Hea.q09 e book text).2.2==(5:Int) then ((Hea.q09 e (book++[g]) text).2.2==(5:Int))=true else false=true else bif (Hea.q09 e book text).2.2==(0:Int) then bif (Hea.q09 e (book++[g]) text).2.2==(0:Int) then bif (Hea.q09 e book text).1==(Hea.q09 e (book++[g]) text).1 then bif (Hea.q09 e book text).2.1==(Hea.q09 e (book++[g]) text).2.1 then true=true else bif (Hea.q09 e book text).2.1 then ((Hea.q09 e (book++[g]) text).2.2==(8:Int))=true else false=true else bif (Hea.q09 e book text).2.1 then ((Hea.q09 e (book++[g]) text).2.2==(8:Int))=true else false=true else bif (Hea.q09 e book text).2.1 then ((Hea.q09 e (book++[g]) text).2.2==(8:Int))=true else false=true else bif (Hea.q09 e book text).2.2==(8:Int) then ((Hea.q09 e (book++[g]) text).2.2==(8:Int))=true else bif (Hea.q09 e book text).2.2==(10:Int) then bif (Hea.q09 e (book++[g]) text).2.2==(10:Int) then true=true else bif (Hea.q09 e (book++[g]) text).2.2==(0:Int) then bif (Hea.q09 e (book++[g]) text).2.1 then ((Hea.q09 e (book++[g]) text).1==g.1)=true else false=true else false=true else bif (Hea.q09 e book text).2.2==(5:Int) then ((Hea.q09 e (book++[g]) text).2.2==(5:Int))=true else false=true else bif (Hea.q09 e book text).2.2==(0:Int) then bif (Hea.q09 e (book++[g]) text).2.2==(0:Int) then bif (Hea.q09 e book text).1==(Hea.q09 e (book++[g]) text).1 then bif (Hea.q09 e book text).2.1==(Hea.q09 e (book++[g]) text).2.1 then true=true else bif (Hea.q09 e book text).2.1 then ((Hea.q09 e (book++[g]) text).2.2==(8:Int))=true else false=true else bif (Hea.q09 e book text).2.1 then ((Hea.q09 e (book++[g]) text).2.2==(8:Int))=true else false=true else bif (Hea.q09 e book text).2.1 then ((Hea.q09 e (book++[g]) text).2.2==(8:Int))=true else false=true else bif (Hea.q09 e book text).2.2==(8:Int) then ((Hea.q09 e (book++[g]) text).2.2==(8:Int))=true else bif (Hea.q09 e book text).2.2==(10:Int) then bif (Hea.q09 e (book++[g]) text).2.2==(10:Int) then true=true else bif (Hea.q09 e (book++[g]) text).2.2==(0:Int) then bif (Hea.q09 e (book++[g]) text).2.1 then ((Hea.q09 e (book++[g]) text).1==g.1)=true else false=true else false=true else bif (Hea.q09 e book text).2.2==(5:Int) then ((Hea.q09 e (book++[g]) text).2.2==(5:Int))=true else false=true:=by
 delta qfk
 have hlen:book.length≤1048576:=h.2.2.2.2.2
 simp only [true_and,and_true]
 have hc:(([]:List Cod.Giv).length+book.length)*64≤140737488355328∧(([]++book).length+[g].length)*64≤140737488355328:=by
  rw [List.nil_append,List.length_singleton,List.length_nil]; omega
 refine ⟨⟨⟨⟨hc.1,hc.2,(),rfl⟩,hc.1,hc.2,(),rfl⟩,hc.1,hc.2,(),rfl⟩,fun _ _=>bifP (fun _=>trivial) fun hb=>?_⟩
 have hf:fewH (e.lang,e.ws) e.c (book++[g]) text=true:=by simpa using hb
 obtain ⟨hW,hC,hB,hT,hl8⟩:=fewH_out hf
 refine ⟨⟨hW,hC,hB⟩,bifP (fun _=>trivial) fun hb=>?_⟩
 have hp:e.proper (book++[g])=true:=by simpa using hb
 have hB1:q4p book:=⟨by have:=hB.1; rw [List.length_append] at this; omega,fun x hx=>hB.2 x (List.mem_append_left _ hx)⟩
 have hg:=hB.2 g (List.mem_append_right _ (List.mem_singleton.2 rfl))
 have hfur:=Hea.further hp text
 refine ⟨⟨hW,hC,hB1,by omega⟩,⟨hW,hC,hB,by omega⟩,?_⟩
 unfold Hea.q3j at hfur
 generalize Hea.q09 e book text=x at hfur ⊢
 generalize Hea.q09 e (book++[g]) text=y at hfur ⊢
 generalize Cod.q5m e.lang e.ws g.2.1=tb at hfur ⊢
 obtain ⟨xa,xm,xe⟩:=x
 obtain ⟨ya,ym,ye⟩:=y
 obtain ⟨ta,te⟩:=tb
 dsimp only at hfur ⊢
 have hcond:q13 (e.lang,e.ws)∧g.2.1.length≤1000000:=⟨hW,hg.2⟩
 have hle:∀ {P:Prop},P→(q13 (e.lang,e.ws)∧g.2.1.length≤1000000)∧P:=fun h=>⟨hcond,h⟩
 revert hfur
 simp only [bne]
 generalize (ye==0)=a0,(xe==0)=b0,(ya==g.1)=c0,(xa==ya)=d0,(ye==8)=a8,(xe==8)=b8,(ye==10)=a10,(xe==10)=b10,(ye==5)=a5,(xe==5)=b5,(te==0)=t0,(ta==text)=t1
 cases a0 <;> cases ym <;> cases c0 <;> cases b0 <;> cases xm <;> simp only [hcond,and_self,cond_true,cond_false,Bool.not_true,Bool.not_false,Bool.and_true,Bool.and_false,Bool.true_and,Bool.false_and,Bool.or_true,Bool.or_false,Bool.true_or,Bool.false_or,if_true,if_false,beq_self_eq_true,Bool.false_eq_true,reduceIte,true_and,implies_true,false_implies] <;> cases b8 <;> cases b10 <;> cases b5 <;> cases d0 <;> cases t0 <;> simp [hW,hg.2]
end Go.Proofs.YtfecgebhoondjaaGreatDoor
set_option linter.unusedVariables false
namespace Go.Proofs.YtfecgebhoondjaaGreatDoor
open Go.RowKit
open R
set_option maxRecDepth 100000 in
theorem hfur_holds:cHFur.Holds Tryz.prog:=by
 refine q2x (cons:=consHFur) Tryz.func6 (by kernel_rfl) (by kernel_rfl) mixed (by kernel_rfl) (all_cons head42_holds (all_cons few42_holds (all_cons q9q (all_cons qj3 (all_cons text41_holds all_nil))))) (fun p=>anHFur p.2.2.1 p.2.2.2.1) fun p hp=>?_
 obtain ⟨⟨lang,ws⟩,c,book,g,text⟩:=p
 refine cast ?_ (hfur_vc ⟨lang,ws,c⟩ book g text hp)
 kernel_rfl
end Go.Proofs.YtfecgebhoondjaaGreatDoor
set_option linter.unusedVariables false
namespace Go.Proofs.YtfecgebhoondjaaGreatDoor
open Go.RowKit Go.ChangeShapes Go.WideShapes
namespace R
def fldK (T:TypeId→Option Kds) (P:Program):List Field→Nat→Option Kds
 | [],_=>none
 | [f],o=>match T f.type with
  | some fs=>bif f.offset.beq o&&(P.cellsOf f.type).beq fs.size then some fs else none
  | none=>none
 | f::g::r,o=>match T f.type,fldK T P (g::r) (o+P.cellsOf f.type) with
  | some fs,some gs=>bif f.offset.beq o&&(P.cellsOf f.type).beq fs.size then some (fs.app gs) else none
  | _,_=>none
def repK (fs:Kds):Nat→Option Kds
 | 0=>none
 | 1=>some fs
 | n+2=>match repK fs (n+1) with
  | some gs=>some (fs.app gs)
  | none=>none
def tyK (P:Program):Nat→TypeId→Option Kds
 | 0,_=>none
 | n+1,t=>match P.underlying t with
  | some (.int k)=>some (.one (.int k))
  | some .bool=>some (.one .bool)
  | some .string=>some (.one .str)
  | some (.slice e)=>match tyK P n e with
   | some fs=>bif (P.cellsOf e).beq fs.size then some (.one (.sl fs)) else none
   | none=>none
  | some (.struct F)=>match fldK (tyK P n) P F.toList 0 with
   | some fs=>bif (P.cellsOf t).beq fs.size then some fs else none
   | none=>none
  | some (.array len e)=>match tyK P n e with
   | some fs=>bif (P.cellsOf e).beq fs.size then (match repK fs len with
    | some gs=>bif (P.cellsOf t).beq gs.size then some gs else none
    | none=>none) else none
   | none=>none
  | _=>none
def ckT (P:Program) (t:TypeId):Option CK :=
 match P.underlying t with
 | some (.struct _)=>(tyK P 20 t).map .agg
 | some (.array _ _)=>none
 | _=>match tyK P 20 t with
  | some (.one k)=>some (.one k)
  | _=>none
def appPay:(fs:Kds)→{gs:Kds}→fs.Pay→gs.Pay→(fs.app gs).Pay
 | .one _,_,p,q=>(p,q)
 | .cons _ ks,_,p,q=>(p.1,appPay ks p.2 q)
theorem qhj:∀ (fs gs:Kds),(fs.app gs).size=fs.size+gs.size
 | .one k,gs=>by show gs.size+1=1+gs.size; omega
 | .cons k ks,gs=>by show (ks.app gs).size+1=ks.size+1+gs.size; rw [qhj]; omega
theorem app_big:∀ (fs:Kds) {gs:Kds} (p:fs.Pay) (q:gs.Pay),fs.Big p→gs.Big q→(fs.app gs).Big (appPay fs p q)
 | .one k,gs,p,q,hp,hq=>⟨hp,hq⟩
 | .cons k ks,gs,p,q,hp,hq=>⟨hp.1,app_big ks p.2 q hp.2 hq⟩
section
variable {H:Type} {enc:TypeId×Value→H} {P:Program} {w:World} {base:Nat} {spare:Nat→Bool} {held:Bool}
theorem qei:∀ (fs:Kds) {gs:Kds} (p:fs.Pay) (q:gs.Pay) (cs ds:List Value),q2b w fs p cs→q2b w gs q ds→q2b w (fs.app gs) (appPay fs p q) (cs++ds)
 | .one k,gs,p,q,cs,ds,hp,hq=>by
  obtain ⟨v,rfl,hv⟩:=hp
  exact ⟨v,ds,rfl,hv,hq⟩
 | .cons k ks,gs,p,q,cs,ds,hp,hq=>by
  obtain ⟨v,r,rfl,hv,hr⟩:=hp
  exact ⟨v,r++ds,rfl,hv,qei ks p.2 q r ds hr hq⟩
def Opens (enc:TypeId×Value→H) (P:Program) (w:World) (base:Nat) (spare:Nat→Bool) (held:Bool) (t:TypeId) (fs:Kds):Prop :=
 ∀ (fuel:Nat) (cs:List Value) (x:DataW H×List MemPlace),DataW.trod enc P w base spare held fuel t cs=some x→∃ p,q2b w fs p cs∧fs.Big p
theorem fld_opens {T:TypeId→Option Kds} (hT:∀ t fs,T t=some fs→Opens enc P w base spare held t fs):∀ (l:List Field) (o:Nat) (fs:Kds),fldK T P l o=some fs→∀ (n:Nat) (cs:List Value),cs.length=o+fs.size →
  (∀ (i:Nat) (f:Field),l[i]? = some f→∃ y,DataW.trod enc P w base spare held n f.type ((cs.drop f.offset).take (P.cellsOf f.type))=some y)→∃ p,q2b w fs p (cs.drop o)∧fs.Big p
 | [],o,fs,h,n,cs,hc,hx=>by cases h
 | [f],o,fs,h,n,cs,hc,hx=>by
  have h:(match T f.type with
   | some fs=>bif f.offset.beq o&&(P.cellsOf f.type).beq fs.size then some fs else none
   | none=>none)=some fs:=h
  split at h
  ·rename_i gs hg
   cases hb:(f.offset.beq o&&(P.cellsOf f.type).beq gs.size)
   ·rw [hb] at h; cases h
   ·rw [hb] at h
    injection h with h; subst h
    rw [Bool.and_eq_true] at hb
    have h1:=Nat.eq_of_beq_eq_true hb.1
    have h2:=Nat.eq_of_beq_eq_true hb.2
    obtain ⟨y,hy⟩:=hx 0 f rfl
    rw [h1,h2,List.take_of_length_le (by rw [List.length_drop]; omega)] at hy
    exact hT _ _ hg n _ y hy
  ·cases h
 | f::g::r,o,fs,h,n,cs,hc,hx=>by
  have h:(match T f.type,fldK T P (g::r) (o+P.cellsOf f.type) with
   | some fs,some gs=>bif f.offset.beq o&&(P.cellsOf f.type).beq fs.size then some (fs.app gs) else none
   | _,_=>none)=some fs:=h
  split at h
  ·rename_i k1 k2 hg hr
   cases hb:(f.offset.beq o&&(P.cellsOf f.type).beq k1.size)
   ·rw [hb] at h; cases h
   ·rw [hb] at h
    injection h with h; subst h
    rw [Bool.and_eq_true] at hb
    have h1:=Nat.eq_of_beq_eq_true hb.1
    have h2:=Nat.eq_of_beq_eq_true hb.2
    rw [qhj] at hc
    obtain ⟨y,hy⟩:=hx 0 f rfl
    rw [h1,h2] at hy
    obtain ⟨p,hp,hbp⟩:=hT _ _ hg n _ y hy
    obtain ⟨q,hq,hbq⟩:=fld_opens hT (g::r) _ k2 hr n cs (by omega) fun i f' hi=>hx (i+1) f' hi
    refine ⟨appPay k1 p q,?_,app_big k1 p q hbp hbq⟩
    have:=qei k1 p q _ _ hp hq
    rw [h2,← List.drop_drop,List.take_append_drop] at this
    exact this
  ·cases h
theorem rep_opens {e:TypeId} {fs:Kds} (hT:Opens enc P w base spare held e fs) (hce:P.cellsOf e=fs.size):∀ (len:Nat) (gs:Kds),repK fs len=some gs→∀ (n i0:Nat) (cs:List Value),cs.length=i0*fs.size+gs.size →
  (∀ (i:Nat),i<len→∃ y,DataW.trod enc P w base spare held n e ((cs.drop ((i0+i)*P.cellsOf e)).take (P.cellsOf e))=some y)→∃ p,q2b w gs p (cs.drop (i0*fs.size))∧gs.Big p
 | 0,gs,h,n,i0,cs,hc,hx=>by cases h
 | 1,gs,h,n,i0,cs,hc,hx=>by
  have h:some fs=some gs:=h
  injection h with h; subst h
  obtain ⟨y,hy⟩:=hx 0 Nat.one_pos
  rw [hce,Nat.add_zero,List.take_of_length_le (by rw [List.length_drop]; omega)] at hy
  exact hT n _ y hy
 | len+2,gs,h,n,i0,cs,hc,hx=>by
  have h:(match repK fs (len+1) with
   | some gs=>some (fs.app gs)
   | none=>none)=some gs:=h
  split at h
  ·rename_i k2 hr
   injection h with h; subst h
   rw [qhj] at hc
   obtain ⟨y,hy⟩:=hx 0 (by omega)
   rw [hce,Nat.add_zero] at hy
   obtain ⟨p,hp,hbp⟩:=hT n _ y hy
   obtain ⟨q,hq,hbq⟩:=rep_opens hT hce (len+1) k2 hr n (i0+1) cs (by rw [Nat.succ_mul]; omega) fun i hi=>by
    have:=hx (i+1) (by omega)
    rwa [show i0+1+i=i0+(i+1) by omega]
   refine ⟨appPay fs p q,?_,app_big fs p q hbp hbq⟩
   have:=qei fs p q _ _ hp hq
   rw [Nat.succ_mul,← List.drop_drop,List.take_append_drop] at this
   exact this
  ·cases h
theorem qaz:∀ (n:Nat) (t:TypeId) (fs:Kds),tyK P n t=some fs→Opens enc P w base spare held t fs
 | 0,t,fs,h=>by cases h
 | n+1,t,fs,h=>by
  intro fuel cs x hx
  unfold tyK at h
  split at h
  ·rename_i k hu
   injection h with h; subst h
   obtain ⟨m,h1,h2,h3⟩:=DataW.trod_int hu hx
   exact ⟨m,⟨_,h1,rfl⟩,by first | exact h3 | exact h3.1 | exact h3.2⟩
  ·rename_i hu
   injection h with h; subst h
   obtain ⟨b,h1,_⟩:=DataW.trod_bool hu hx
   exact ⟨b,⟨_,h1,rfl⟩,trivial⟩
  ·rename_i hu
   injection h with h; subst h
   obtain ⟨s,h1,_,h3⟩:=DataW.trod_string hu hx
   exact ⟨s.data.toList,⟨_,h1,rfl⟩,h3⟩
  ·rename_i e hu
   split at h
   ·rename_i gs hg
    cases hb:(P.cellsOf e).beq gs.size
    ·rw [hb] at h; cases h
    ·rw [hb] at h
     injection h with h; subst h
     have hce:=Nat.eq_of_beq_eq_true hb
     have hO:=qaz n e gs hg
     rcases Go.Deep.open_slice hu hx with ⟨rfl,_⟩ | ⟨a,len,cap,m,k,D,Pl,rfl,hbb,hlc,hm,hmm,_,hxx⟩
     ·exact ⟨([]:List gs.Pay),⟨_,rfl,none,0,rfl,Nat.le_refl _,fun h=>absurd h (Nat.lt_irrefl _)⟩,Nat.zero_le _,fun x h=>by cases h⟩
     ·have hlm:len≤m:=by rw [hmm]; split <;> omega
      have each:∀ i,i<len→∃ p:gs.Pay,∀ g o,a=⟨g,o,none⟩→gs.Rep w (Here w) p g (o+i*gs.size)∧gs.Big p:=fun i hi=>by
       obtain ⟨cs',h1,h2⟩:=hxx i (by omega)
       obtain ⟨p,hp,hbig⟩:=hO k cs' _ h2
       refine ⟨p,fun g o ha=>⟨q2b.row gs p cs' g _ hp fun j hj=>?_,hbig⟩⟩
       subst ha
       obtain ⟨_,hl,hc⟩:=World.cells?_some h1
       have:=hc j (by omega)
       rw [add_pl',add_pl',hce] at this
       exact this
      obtain ⟨f,hf⟩:∃ f:Nat→gs.Pay,∀ i,i<len→∀ g o,a=⟨g,o,none⟩→gs.Rep w (Here w) (f i) g (o+i*gs.size)∧gs.Big (f i):=by
       haveI:Inhabited gs.Pay:=⟨gs.dflt⟩
       exact Go.Deep.choose_lt each
      have hlen:((List.range len).map f).length=len:=by simp
      have hpl:0<len→∃ g o,a=⟨g,o,none⟩∧g<w.heap.size:=fun hpos=>by
       obtain ⟨cs',h1,_⟩:=hxx 0 (by omega)
       obtain ⟨_,hl,hc⟩:=World.cells?_some h1
       have:=hc 0 (by rw [hce]; exact gs.q6t)
       rw [Nat.zero_mul] at this
       have hlt:0<cs'.length:=by rw [hl,hce]; exact gs.q6t
       rw [List.getElem?_eq_getElem hlt] at this
       have ha:a.add 0=a:=by unfold Addr.add; simp
       rw [ha] at this
       exact cell_plain' this
      refine ⟨((List.range len).map f:List gs.Pay),⟨_,rfl,some a,cap,by rw [hlen],by rw [hlen]; exact hlc,fun hpos=>?_⟩,?_,?_⟩
      ·rw [hlen] at hpos
       obtain ⟨g,o,rfl,hg⟩:=hpl hpos
       refine ⟨g,o,rfl,hg,hg,fun i x hi=>?_⟩
       have hil:i<len:=by
        rcases Nat.lt_or_ge i len with h' | h'
        ·exact h'
        ·rw [List.getElem?_eq_none (by rw [hlen]; exact h')] at hi; cases hi
       rw [List.getElem?_map,List.getElem?_range hil] at hi
       injection hi with hi
       subst hi
       exact (hf i hil g o rfl).1
      ·rw [hlen]; unfold maxLen at hm; omega
      ·intro x hx'
       obtain ⟨i,hi,rfl⟩:=List.mem_map.1 hx'
       have hi:=List.mem_range.1 hi
       obtain ⟨g,o,ha,hg⟩:=hpl (by omega)
       exact (hf i hi g o ha).2
   ·cases h
  ·rename_i F hu
   split at h
   ·rename_i gs hg
    cases hb:(P.cellsOf t).beq gs.size
    ·rw [hb] at h; cases h
    ·rw [hb] at h
     injection h with h; subst h
     have hct:=Nat.eq_of_beq_eq_true hb
     obtain ⟨xs,m,rfl,_,hl,hxl,hxx⟩:=DataW.trod_struct hu hx
     have:=fld_opens (qaz n) F.toList 0 gs hg m cs (by omega) fun i f hi=>by
      have h1:F[i]? = some f:=by rw [← Array.getElem?_toList]; exact hi
      have h2:=hxx i f h1
      have hil:i<xs.length:=by
       rw [hxl]
       exact (Array.getElem?_eq_some_iff.1 h1).1
      rw [List.getElem?_eq_getElem hil] at h2
      exact ⟨_,h2⟩
     rwa [List.drop_zero] at this
   ·cases h
  ·rename_i len e hu
   split at h
   ·rename_i fs1 hg
    cases hb1:(P.cellsOf e).beq fs1.size
    ·rw [hb1] at h; cases h
    ·rw [hb1] at h
     have hce:=Nat.eq_of_beq_eq_true hb1
     dsimp only [cond_true] at h
     split at h
     ·rename_i gs hr
      cases hb:(P.cellsOf t).beq gs.size
      ·rw [hb] at h; cases h
      ·rw [hb] at h
       injection h with h; subst h
       have hct:=Nat.eq_of_beq_eq_true hb
       obtain ⟨xs,m,rfl,_,hl,hxl,hxx⟩:=DataW.trod_array hu hx
       have:=rep_opens (qaz n e fs1 hg) hce len gs hr m 0 cs (by omega) fun i hi=>by
        have h2:=hxx i hi
        rw [List.getElem?_eq_getElem (by omega)] at h2
        rw [Nat.zero_add]
        exact ⟨_,h2⟩
       rwa [Nat.zero_mul,List.drop_zero] at this
     ·cases h
   ·cases h
  ·cases h
theorem qax {r:Reach} {b0:Nat} (x:CK) (t:TypeId) (ht:ckT P t=some x) {v:Value} {d:DataW H} {ps:List MemPlace} (hv:Value.okWide P w r b0 t v) (h:DataW.Trod enc P w base spare held t v d ps) :
  ∃ p:x.Pay,(x.comp p).Rep (Cx.of (Here w)) w v∧x.Big p:=by
 obtain ⟨fuel,hf⟩:=h
 unfold ckT at ht
 split at ht
 ·rename_i F hu
  cases hk:tyK P 20 t with
  | none=>rw [hk] at ht; cases ht
  | some ks =>
   rw [hk] at ht
   injection ht with ht; subst ht
   obtain ⟨cs,rfl,hsz⟩:=okWide_struct hu hv
   obtain ⟨p,hp,hb⟩:=qaz 20 t ks hk fuel _ _ hf
   obtain ⟨h1,h2,h3⟩:=q2b.reps ks p _ hp
   refine ⟨p,⟨cs,rfl,?_,fun i c hi=>?_,fun i u hi=>?_⟩,hb⟩
   ·rw [← h3]; simp [Value.cells]
   ·obtain ⟨u,hu,hr⟩:=h1 i c hi
    exact ⟨u,by simpa [Value.cells] using hu,hr⟩
   ·exact h2 i u (by simpa [Value.cells] using hi)
 ·cases ht
 ·rename_i hns hna
  split at ht
  ·rename_i k hk
   injection ht with ht; subst ht
   have hone:v.cells.toList=[v]:=by
    unfold tyK at hk
    split at hk
    ·rename_i hu; obtain ⟨n,rfl⟩:=okWide_int hu hv; rfl
    ·rename_i hu; obtain ⟨n,rfl⟩:=okWide_bool hu hv; rfl
    ·rename_i hu; obtain ⟨n,rfl⟩:=okWide_string hu hv; rfl
    ·rename_i hu; obtain ⟨a,n,c,rfl⟩:=okWide_slice hu hv; rfl
    ·rename_i hu; exact absurd hu (hns _)
    ·rename_i hu; exact absurd hu (hna _ _)
    ·cases hk
   obtain ⟨p,⟨v',h1,h2⟩,h3⟩:=qaz 20 t (.one k) hk fuel _ _ hf
   rw [hone] at h1
   injection h1 with h1
   subst h1
   exact ⟨p,h2,h3⟩
  ·cases ht
end
end R
end Go.Proofs.YtfecgebhoondjaaGreatDoor
set_option linter.unusedVariables false
namespace Go.Proofs.YtfecgebhoondjaaGreatDoor
open Go.RowKit
namespace Up
theorem one_le {H:Type} (d:DataW H):1≤Rows.uptoBulk d:=by
 cases d with
 | lit l=>cases l <;> simp [Rows.uptoBulk]
 | _=>simp [Rows.uptoBulk]
theorem length_le {H:Type} (l:List (DataW H)):l.length≤Rows.uptoBulkAll l:=by
 induction l with
 | nil=>simp [Rows.uptoBulkAll]
 | cons x r ih=>have:=one_le x; simp only [Rows.uptoBulkAll,List.length_cons]; omega
theorem part_le {H:Type} {d:DataW H} {l:List (DataW H)} (h:d∈l):Rows.uptoBulk d≤Rows.uptoBulkAll l:=by
 induction l with
 | nil=>cases h
 | cons x r ih =>
  simp only [Rows.uptoBulkAll]
  cases List.mem_cons.1 h with
  | inl e=>subst e; omega
  | inr e=>have:=ih e; omega
variable {H:Type} {enc:TypeId×Value→H} {P:Program} {w:World} {base:Nat} {spare:Nat→Bool} {held:Bool}
theorem slice_len {t e:TypeId} (ht:P.underlying t=some (.slice e)) {A:Option Addr} {n c:Nat} {d:DataW H} {ps:List MemPlace} (h:DataW.Trod enc P w base spare held t (.slice A n c) d ps):n≤Rows.uptoBulk d:=by
 obtain ⟨fuel,hf⟩:=h
 rcases DataW.trod_slice ht hf with ⟨h1,_⟩ | ⟨a,len,cap,elems,rest,m,_,hcs,hx,_,hl,_,hlen,_⟩
 ·have h1':[Value.slice A n c]=[.slice none 0 0]:=h1
  injection h1' with h2; injection h2 with _ h3; omega
 ·have h1':[Value.slice A n c]=[.slice (some a) len cap]:=hcs
  injection h1' with h2; injection h2 with _ h3
  injection hx with h4 _
  rw [h4,h3,← hlen]
  have:=length_le (elems.map (·.1))
  rw [List.length_map] at this
  simp only [Rows.uptoBulk]; omega
theorem pay_len {fs:R.Kds} {t e:TypeId} (ht:P.underlying t=some (.slice e)) {v:Value} {d:DataW H} {ps:List MemPlace} {l:List (DataW H)} (h:DataW.Trod enc P w base spare held t v d ps) (a:(R.CK.one (.sl fs)).Pay)
  (hr:((R.CK.one (.sl fs)).comp a).Rep (R.Cx.of (R.Here w)) w v) (hd:d∈l) (hk:Rows.uptoSmall H l=true):List.length (show List fs.Pay from a)≤1048576:=by
 obtain ⟨A,c,rfl,_,_⟩:=hr
 have h1:=slice_len ht h
 have h2:=part_le hd
 have h3:Rows.uptoBulkAll l≤1048576:=of_decide_eq_true hk
 exact Nat.le_trans h1 (Nat.le_trans h2 h3)
end Up
end Go.Proofs.YtfecgebhoondjaaGreatDoor

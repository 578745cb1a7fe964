/-
  Several texts in one: CoU, CoV, CoHd, CoJL, CoJ, CoHx, CoHe, CoHf, R15N, CoML.
-/
import Derived.Test.YtfecgebhoondjaaGreatDoorPS
import Derived.Lib.Join
import Derived.Test.YtfecgebhoondjaaGreatDoorPO
import Derived.KernelRfl
import Derived.Test.YtfecgebhoondjaaGreatDoorPL
import Derived.OpenShut
set_option linter.unusedVariables false
namespace Go.Proofs.YtfecgebhoondjaaGreatDoor
open Go.RowKit
open R
abbrev ckErr1:CK:=.one (.int .i64)
def cJoinS:Con:=.of 61 [.one (.sl (.one .str)),ckStr1] [ckStr1] (fun p=>List.length p.1≤1000000∧(Lib.join p.1 p.2).length≤1000000) (fun p=>Lib.join p.1 p.2)
theorem joinS_holds:cJoinS.Holds Tryz.prog:=by
 refine ⟨⟨⟨_,Tryz.func61,by kernel_rfl,by kernel_rfl⟩,fun F' hF p r hr=>by injection hF with hF; subst hF; exact hr⟩,fun p vs w S hS hp hvs=>?_⟩
 obtain ⟨xs,sep⟩:=p
 obtain ⟨hp1,hp2⟩:=hp
 have hp1:xs.length≤1000000:=hp1
 have hp2:(Lib.join xs sep).length≤1000000:=hp2
 obtain ⟨v,v2,rfl,hv,hv2⟩:=two_args hvs
 obtain rfl:v2=.string (bs sep):=hv2
 obtain ⟨A,c,rfl,hc,hrow⟩:=hv
 by_cases h0:xs.length=0
 ·obtain rfl:=List.eq_nil_of_length_eq_zero h0
  refine (Tryz.strings_Join_none A c (bs sep) w).mono ?_
  rintro e w' ⟨rfl,rfl⟩
  exact ⟨Lib.join [] sep,_,rfl,rfl,rfl,Below.refl _ _⟩
 ·obtain ⟨g,off,rfl,hg,_,hcells⟩:=hrow (by show 0<xs.length; omega)
  have hm:(xs.map bs).map (fun x:ByteArray=>x.data.toList)=xs:=by
   rw [List.map_map]
   conv=>rhs; rw [← List.map_id xs]
   apply List.map_congr_left
   intro x _
   exact q2r x
  have hj:=Tryz.strings_Join g off c (xs.map bs) (bs sep) w (fun j x hx=>by
   rw [List.getElem?_map] at hx
   cases hx2:xs[j]? with
   | none=>rw [hx2] at hx; cases hx
   | some y =>
    rw [hx2] at hx
    injection hx with hx
    obtain ⟨u,hu,hr⟩:=hcells j y hx2
    have hr:u=.string (bs y):=hr
    have e:off+j*(Kds.one Kd.str).size=off+j:=by show off+j*1=_; omega
    rw [e] at hu
    rw [hu,hr,← hx]) hg (by rw [List.length_map]; omega) (by rw [List.length_map]; exact hc) (by rw [hm,show (bs sep).data.toList=sep from q2r sep]; omega)
  rw [hm,show (bs sep).data.toList=sep from q2r sep,List.length_map] at hj
  refine hj.mono ?_
  rintro e w' ⟨rfl,hb⟩
  exact ⟨Lib.join xs sep,_,rfl,rfl,rfl,hb⟩
theorem join_cons2 (x y:List UInt8) (r:List (List UInt8)) (sep:List UInt8):Lib.join (x::y::r) sep=x++sep++Lib.join (y::r) sep:=by
 simp [Lib.join,List.intercalate,List.intersperse]
def q6o (ws:List (List UInt8)) (code:List Int):List (List UInt8):=code.map fun i=>ws.getD i.toNat []
theorem ql4 (ws:List (List UInt8)):∀ code:List Int,Lib.join (q6o ws code) [32]=Cod.q82 ws code
 | []=>rfl
 | [i]=>Lib.join_one _ _
 | i::j::r=>by
  show Lib.join (ws.getD i.toNat []::ws.getD j.toNat []::q6o ws r) [32]=_
  rw [join_cons2]
  have ih:=ql4 ws (j::r)
  show _++_++Lib.join (q6o ws (j::r)) [32]=_
  rw [ih]; rfl
def qig:Con:=.of 28 [ckWl,q2i] [ckStr1,ckErr1] (fun p=>q0d p.1∧List.length p.2≤1000000) (fun p=>Cod.q3j p.1.1 p.1.2 p.2)
def strRowC (ss:List (List UInt8)):Row:=⟨9,.one .str,ss⟩
def anText41 (ws:List (List UInt8)) (code:List Int):List (Nat×Ann) :=
 [annX 0 (Nat×List (List UInt8))
    (fun st p=>st.hd { live:=[2,13,14],sav:=[],box:=[2] } [(6,.c (.one (.own 26))),(15,R.int .i64 p.1)] [] [(26,strRowC p.2)] [] none)
    (fun _ p=>p.1≤code.length∧p.2=q6o ws (code.take p.1))
    (fun _ p=>code.length-p.1)]
end Go.Proofs.YtfecgebhoondjaaGreatDoor
set_option linter.unusedVariables false
namespace Go.Proofs.YtfecgebhoondjaaGreatDoor
open Go.RowKit
open R
theorem word_len {lang:List UInt8} {ws:List (List UInt8)} (h:Snd.q0j lang ws=true) (i:Nat):(ws.getD i []).length≤8:=by
 unfold Snd.q0j at h
 simp only [Bool.and_eq_true,List.all_eq_true] at h
 by_cases hi:i<ws.length
 ·have:=h.2.2.2.1 _ (Snd.q11 ws [] i hi)
  unfold Snd.q0r at this
  simp only [Bool.and_eq_true,decide_eq_true_eq] at this
  omega
 ·rw [List.getD_eq_getElem?_getD,List.getElem?_eq_none (by omega)]; exact Nat.zero_le _
theorem joinC_len {lang:List UInt8} {ws:List (List UInt8)} (h:Snd.q0j lang ws=true):∀ code:List Int,(Cod.q82 ws code).length≤code.length*9
 | []=>Nat.zero_le _
 | [i]=>by
  have:=word_len h i.toNat
  show (ws.getD i.toNat []).length≤1*9
  omega
 | i::j::r=>by
  have ih:=joinC_len h (j::r)
  have:=word_len h i.toNat
  show (ws.getD i.toNat []++[32]++Cod.q82 ws (j::r)).length≤(r.length+1+1)*9
  rw [List.length_append,List.length_append,List.length_singleton]
  have:(j::r).length=r.length+1:=rfl
  rw [this] at ih
  omega
set_option maxRecDepth 100000 in
theorem text41_vc (lang:List UInt8) (ws:List (List UInt8)) (code:List Int) (h:qig.pre ((lang,ws),code)) :
  (q0d (lang,ws)∧code.length≤(1000000:Nat))∧bif !Cod.q0p lang ws code then ([],(1:Int))=Cod.q3j lang ws code else (∃ (p':Nat×List (List UInt8)),(p'.1≤code.length ∧
  p'.2=q6o ws (List.take p'.1 code))∧(True∧(0:Int)=(p'.1:Int)∧True∧code=code∧(code.length:Int)=(code.length:Int)∧True)∧((lang=lang∧ws=ws∧True) ∧
  True)∧(p'.2=[]∧True)∧True∧True∧True∧True∧True∧True∧True)∧∀ (p:Nat×List (List UInt8)),p.1≤code.length∧p.2=q6o ws (List.take p.1 code)→bif decide ((↑p.1
  : Int)<(code.length:Int)) then ((0:Int)≤(p.1:Int)∧(p.1:Int)<(code.length:Int))∧((0:Int)≤code.getD (p.1:Int).toNat (0:Int)∧code.getD (p.1:Int).toNat (0 :
  Int)<(ws.length:Int))∧(p.2.length+[ws.getD (code.getD (p.1:Int).toNat (0:Int)).toNat []].length)*(16:Nat)≤(140737488355328:Nat)∧((-9223372036854775808:Int)≤(↑p.1
  : Int)+(1:Int)∧(p.1:Int)+(1:Int)≤(9223372036854775807:Int))∧∃ (p':Nat×List (List UInt8)),(p'.1≤code.length∧p'.2=q6o ws (List.take p'.1 code))∧code.length
  - p'.1<code.length-p.1∧(True∧(p.1:Int)+(1:Int)=(p'.1:Int)∧True∧code=code∧(code.length:Int)=(code.length:Int)∧True)∧((lang=lang∧ws=ws∧True) ∧
  True)∧(p.2++[ws.getD (code.getD (p.1:Int).toNat (0:Int)).toNat []]=p'.2∧True)∧True∧True∧True∧True∧True∧True∧True else (p.2.length≤(1000000:Nat)∧(Lib.join p.2
  [(32:UInt8)]).length≤(1000000:Nat))∧(Lib.join p.2 [(32:UInt8)],(0:Int))=Cod.q3j lang ws code
  := by
 obtain ⟨hW,h1⟩:=h
 have hW:q0d (lang,ws):=hW
 have h1:code.length≤1000000:=h1
 simp only [true_and,and_true,eq_self,and_self,Int.toNat_natCast]
 refine ⟨⟨hW,h1⟩,bifP (fun hcd=>by unfold Cod.q3j; rw [q4v hcd]; rfl) fun hcd=>?_⟩
 have hcd:=q1m hcd
 obtain ⟨⟨hg3,hg5⟩,hin⟩:=qa5 hcd
 have hv:Snd.q0j lang ws=true:=by
  unfold Cod.q0p at hcd
  rw [Bool.and_eq_true] at hcd
  exact hcd.1
 refine ⟨⟨(0,[]),⟨Nat.zero_le _,rfl⟩,by and_intros <;> rfl⟩,?_⟩
 rintro ⟨k,ss⟩ ⟨hk,hs⟩
 dsimp only at *
 subst hs
 have hl:(q6o ws (code.take k)).length≤5:=by
  unfold q6o
  rw [List.length_map,List.length_take]
  omega
 refine bifP (fun hkl=>?_) fun hkl=>?_
 ·have hkl:k<code.length:=by have:=of_decide_eq_true hkl; omega
  obtain ⟨hw0,hw1⟩:=hin k hkl
  refine ⟨⟨by omega,by omega⟩,⟨hw0,hw1⟩,by rw [List.length_singleton]; omega,⟨by omega,by omega⟩,(k+1,_),⟨by omega,?_⟩,by omega,by and_intros <;> first | rfl | omega⟩
  unfold q6o
  rw [Snd.q1n code 0 k hkl,List.map_append]; rfl
 ·have hkl:=of_decide_eq_false hkl
  rw [List.take_of_length_le (l:=code) (i:=k) (by omega)] at *
  rw [ql4]
  have:=joinC_len hv code
  refine ⟨⟨by omega,by omega⟩,?_⟩
  unfold Cod.q3j
  rw [hcd]; rfl
set_option maxRecDepth 100000 in
theorem qg7:qig.Holds Tryz.prog:=by
 refine q1o (cons:=[q7r,cJoinS]) Tryz.func28 (by kernel_rfl) (by kernel_rfl) mixed (by kernel_rfl) (all_cons q4u (all_cons joinS_holds all_nil)) (fun p=>anText41 p.1.2 p.2) fun p hp=>?_
 obtain ⟨⟨lang,ws⟩,code⟩:=p
 refine cast ?_ (text41_vc lang ws code hp)
 kernel_rfl
end Go.Proofs.YtfecgebhoondjaaGreatDoor
set_option linter.unusedVariables false
namespace Go.Proofs.YtfecgebhoondjaaGreatDoor
open Go.RowKit
open R
def wd41:WlP:=([101,110],[[98,97,100],[98,97,110],[112,97,110],[115,101,97]])
def cf41:CfP:=[([98],[112])]
def cWords41:Con:=.of 62 [] [ckWl] (fun _=>True) (fun _=>wd41)
def cConf41:Con:=.of 63 [] [ckCf] (fun _=>True) (fun _=>cf41)
def qa7:Con:=.of 29 [] [q35] (fun _=>True) (fun _=>true)
def consHead41:List Con:=[cWords41,cConf41,cMist,qig,cGive,cSameL,cEq,q8b,q7r]
def ga41:Cod.Giv:=([97],[0,0,0],false,0,0)
def gb41:Cod.Giv:=([98],[0,0,1],false,0,0)
def gc41:Cod.Giv:=([99],[0,0,3],false,0,0)
def mm41:List (List Int):=[[0,1],[0,1,2],[0,2,1],[1,0,1],[1,1]]
def ov41:List (Nat×AV):=[(1,.c (.one (.val (.sl kIs) mm41))),(2,R.int .i64 0),(3,.c (.one (.val .str [115,101,97,32,98,97,100,32,98,97,110]))),(4,R.int .i64 0)]
def bx41 (t:Nat):Nat×AV:=(t,.c (.one (.ptr t 0)))
def anHead41:List (Nat×Ann) :=
 [cutG 4 Unit (fun st _=>st.hd { live:=[],sav:=[],box:=[] } (ov41++[bx41 5,(6,R.int .i64 0)]) [(5,kGiv.cells ga41)] [] [] none) (fun _=>True),
 cutG 5 Unit (fun st _=>st.hd { live:=[],sav:=[],box:=[] } (ov41++[bx41 5,(6,R.int .i64 0),bx41 7,(8,R.int .i64 0)]) [(5,kGiv.cells ga41),(7,kGiv.cells gb41)] [] [] none) (fun _=>True),
 cutG 6 Unit (fun st _=>st.hd { live:=[],sav:=[],box:=[] } (ov41++[bx41 5,(6,R.int .i64 0),bx41 7,(8,R.int .i64 0),bx41 9,(10,R.int .i64 0)]) [(5,kGiv.cells ga41),(7,kGiv.cells gb41),(9,kGiv.cells gc41)] [] [] none) (fun _=>True),
 cutG 8 Unit (fun st _=>st.hd { live:=[],sav:=[],box:=[] } [bx41 5,bx41 7,bx41 9,(11,R.bool true),(12,R.bool true)] [(5,kGiv.cells ga41),(7,kGiv.cells gb41),(9,kGiv.cells gc41)] [] [] none) (fun _=>True)]
end Go.Proofs.YtfecgebhoondjaaGreatDoor
set_option linter.unusedVariables false
namespace Go.Proofs.YtfecgebhoondjaaGreatDoor
namespace Cod
theorem qjb:∀ {a b s t:List UInt8},(32:UInt8) ∉ a→(32:UInt8) ∉ b→a++32::s=b++32::t→a=b∧s=t
 | [],[],s,t,_,_,h=>by
  rw [List.nil_append,List.nil_append] at h
  injection h with _ h
  exact ⟨rfl,h⟩
 | [],b::m,s,t,_,hb,h=>by
  rw [List.nil_append,List.cons_append] at h
  injection h with h _
  exact absurd (h▸List.mem_cons_self) hb
 | a::l,[],s,t,ha,_,h=>by
  rw [List.nil_append,List.cons_append] at h
  injection h with h _
  exact absurd (h▸List.mem_cons_self) ha
 | a::l,b::m,s,t,ha,hb,h=>by
  rw [List.cons_append,List.cons_append] at h
  injection h with h1 h2
  obtain ⟨e1,e2⟩:=qjb (fun h=>ha (List.mem_cons_of_mem _ h)) (fun h=>hb (List.mem_cons_of_mem _ h)) h2
  exact ⟨by rw [h1,e1],e2⟩
theorem qfs {lang:Str} {ws:List Str} (hv:Snd.q0j lang ws=true) {i:Nat} (hi:i<ws.length):(32:UInt8) ∉ ws.getD i []:=by
 unfold Snd.q0j at hv
 simp only [Bool.and_eq_true,List.all_eq_true] at hv
 have h:=hv.2.2.2.1 _ (Snd.q11 ws [] i hi)
 unfold Snd.q0r at h
 rw [Bool.and_eq_true,List.all_eq_true] at h
 intro hm
 have:=h.1 _ hm
 revert this
 decide
theorem word_inj {lang:Str} {ws:List Str} (hv:Snd.q0j lang ws=true) {i j:Nat} (hi:i<ws.length) (hj:j<ws.length) (h:ws.getD i []=ws.getD j []):i=j:=by
 unfold Snd.q0j at hv
 simp only [Bool.and_eq_true] at hv
 exact Snd.rising_inj hv.2.2.2.2 hi hj h
theorem qby {n:Nat} {i:Int} {r:List Int} (h:inB n (i::r)=true):(0≤i∧i.toNat<n)∧inB n r=true:=by
 unfold inB at *
 rw [List.all_cons,Bool.and_eq_true,Bool.and_eq_true,decide_eq_true_eq,decide_eq_true_eq] at h
 exact ⟨⟨h.1.1,by omega⟩,h.2⟩
theorem qbp (ws:List Str) (i k:Int) (r:List Int):q82 ws (i::k::r)=ws.getD i.toNat []++32::q82 ws (k::r):=by
 rw [q82]
 ·simp
 ·intro h; cases h
theorem joinC_inj {lang:Str} {ws:List Str} (hv:Snd.q0j lang ws=true):∀ {x y:List Int},inB ws.length x=true→inB ws.length y=true→x≠[]→y≠[]→q82 ws x=q82 ws y→x=y
 | [],_,_,_,h,_,_=>absurd rfl h
 | _,[],_,_,_,h,_=>absurd rfl h
 | [i],[j],hx,hy,_,_,h=>by
  have hi:=(qby hx).1
  have hj:=(qby hy).1
  have h:ws.getD i.toNat []=ws.getD j.toNat []:=h
  have:=word_inj hv hi.2 hj.2 h
  have:i=j:=by omega
  rw [this]
 | [i],j::k::r,hx,hy,_,_,h=>by
  have hi:=(qby hx).1
  rw [qbp] at h
  have h:ws.getD i.toNat []=_:=h
  refine absurd ?_ (qfs hv hi.2)
  rw [h]
  exact List.mem_append_right _ List.mem_cons_self
 | i::k::r,[j],hx,hy,_,_,h=>by
  have hj:=(qby hy).1
  rw [qbp] at h
  have h:_=ws.getD j.toNat []:=h
  refine absurd ?_ (qfs hv hj.2)
  rw [← h]
  exact List.mem_append_right _ List.mem_cons_self
 | i::k::r,j::l::s,hx,hy,_,_,h=>by
  obtain ⟨hi,hx'⟩:=qby hx
  obtain ⟨hj,hy'⟩:=qby hy
  rw [qbp,qbp] at h
  obtain ⟨e1,e2⟩:=qjb (qfs hv hi.2) (qfs hv hj.2) h
  have:=word_inj hv hi.2 hj.2 e1
  have e:i=j:=by omega
  rw [e,joinC_inj hv hx' hy' (by simp) (by simp) e2]
theorem q72 {lang:Str} {ws:List Str} {x:List Int} (h:q0p lang ws x=true):Snd.q0j lang ws=true∧(3≤x.length∧x.length≤5)∧inB ws.length x=true:=by
 unfold q0p at h
 simp only [Bool.and_eq_true,decide_eq_true_eq] at h
 exact ⟨h.1,by omega,h.2.2.2⟩
theorem text_inj {lang:Str} {ws:List Str} {x y:List Int} (hx:q0p lang ws x=true) (hy:q0p lang ws y=true):(q82 ws x==q82 ws y)=(x==y):=by
 obtain ⟨hv,h1,h2⟩:=q72 hx
 obtain ⟨_,h3,h4⟩:=q72 hy
 rw [Bool.eq_iff_iff,beq_iff_eq,beq_iff_eq]
 constructor
 ·exact fun h=>joinC_inj hv h2 h4 (fun e=>by rw [e] at h1; simp at h1) (fun e=>by rw [e] at h3; simp at h3) h
 ·exact fun h=>by rw [h]
end Cod
end Go.Proofs.YtfecgebhoondjaaGreatDoor
set_option linter.unusedVariables false
namespace Go.Proofs.YtfecgebhoondjaaGreatDoor
open Go.RowKit
open R
abbrev ckU8:CK:=.one (.int .u8)
theorem q62 {lang:List UInt8} {ws:List (List UInt8)} {c:CfP} {book:q0k} {m:Int} (h:q2s (lang,ws) c book m=true):q0d (lang,ws)∧q0h c∧(∀ g∈book,g.2.1.length≤8∧g.1.length≤60)∧(book.length:Int)≤m∧ws.length≤8:=by
 unfold q2s q83 q7e at h
 simp only [Bool.and_eq_true,List.all_eq_true,decide_eq_true_eq] at h
 obtain ⟨⟨h1,h2,h3⟩,⟨h4,h5⟩,h6,h7,h8,h9⟩:=h
 exact ⟨⟨by show lang.length≤_; omega,by show ws.length≤_; omega,fun s hs=>Nat.le_trans (h3 s hs) (by omega)⟩,⟨by omega,fun x hx=>by have:=h5 x hx; omega⟩,h9,h8,h6⟩
theorem qaf {book:q0k} {m:Int} (h:∀ g∈book,g.2.1.length≤8∧g.1.length≤60) (hm:(book.length:Int)≤m) (hm2:m≤1000):q15 book:=⟨by omega,fun g hg=>by have:=h g hg; omega⟩
def cTexts:Con:=.of 13 [ckWl,q2i,q2i] [q35] (fun p=>CK.Big ckWl p.1∧CK.Big q2i p.2.1∧CK.Big q2i p.2.2) (fun _=>true)
def cApart:Con:=.of 10 [ckWl,ckCf,q4j,ckU8,ckU8] [q35] (fun p=>CK.Big ckWl p.1∧CK.Big ckCf p.2.1∧CK.Big q4j p.2.2.1∧CK.Big ckU8 p.2.2.2.1∧CK.Big ckU8 p.2.2.2.2) (fun _=>true)
def cNearL:Con:=.of 11 [ckWl,ckCf,q4j,ckU8,ckU8] [q35] (fun p=>CK.Big ckWl p.1∧CK.Big ckCf p.2.1∧CK.Big q4j p.2.2.1∧CK.Big ckU8 p.2.2.2.1∧CK.Big ckU8 p.2.2.2.2) (fun _=>true)
def cBooks:Con:=.of 12 [ckWl,ckCf,q4j,q7f,q7g,ckU8] [q35] (fun p=>CK.Big ckWl p.1∧CK.Big ckCf p.2.1∧CK.Big q4j p.2.2.1∧CK.Big q7f p.2.2.2.1∧CK.Big q7g p.2.2.2.2.1∧CK.Big ckU8 p.2.2.2.2.2) (fun _=>true)
def cMistL:Con:=.of 8 [ckWl,ckCf,q2i,ckU8,ckU8] [q35] (fun p=>CK.Big ckWl p.1∧CK.Big ckCf p.2.1∧CK.Big q2i p.2.2.1∧CK.Big ckU8 p.2.2.2.1∧CK.Big ckU8 p.2.2.2.2) (fun _=>true)
def cGives:Con:=.of 9 [ckWl,ckCf,q4j,q7f,q7g,q2i] [q35] (fun p=>CK.Big ckWl p.1∧CK.Big ckCf p.2.1∧CK.Big q4j p.2.2.1∧CK.Big q7f p.2.2.2.1∧CK.Big q7g p.2.2.2.2.1∧CK.Big q2i p.2.2.2.2.2) (fun _=>true)
def bookRow (l:q0k):Row:=⟨42,kGiv,l⟩
def anBooks (book:q0k):List (Nat×Ann) :=
 [annX 0 Nat (fun st k=>st.hd { live:=[1,2,4,5,6,9,13],sav:=[],box:=[6,9] } [(14,ownAV 56),(15,R.int .i64 ((book.length:Int)-1-k))] [] [(56,bookRow (book.reverse.take k))] [] none)
    (fun _ k=>k≤book.length)
    (fun _ k=>book.length-k)]
def qcj (e:Cod.Ear) (book:q0k) (i k:Int) (p:Cod.Giv×Cod.Giv):Prop:=q2s (e.lang,e.ws) e.c book 8=true∧e.proper book=true∧2≤book.length∧p.1=book.getD ((IntKind.i64.wrap i).tmod (book.length:Int)).toNat Cod.noG∧p.2=book.getD ((IntKind.i64.wrap k).tmod (book.length:Int)).toNat Cod.noG
def anNearL (e:Cod.Ear) (book:q0k) (i k:Int):List (Nat×Ann) :=
 [annX 0 Nat (fun st k=>st.hd { live:=[11,14,15,16,17],sav:=[],box:=[] } [(18,R.int .i64 k)] [] [] [] none)
    (fun st k=>k≤(Get.slOf kIs 14 st).length∧((Get.slOf kIs 14 st).take k).all (fun z=>!((Get.slOf kIs 16 st).any fun y=>y==z))=true)
    (fun st k=>(Get.slOf kIs 14 st).length-k),
 annX 2000005 (Cod.Giv×Cod.Giv) (fun st p=>st.hd { live:=[1,5,11],sav:=[],box:=[5] } [(12,.c (.one (.ptr 12 0))),(13,.c (.one (.ptr 13 0)))] [(12,kGiv.cells p.1),(13,kGiv.cells p.2)] [] [] none) (fun _ p=>qcj e book i k p) (fun _ _=>0)]
def MistAt (e:Cod.Ear) (x:List Int):Prop:=q2s (e.lang,e.ws) e.c [] 8=true∧x.length≤8∧(e.q05 x).2=0
def lessAt (x:List Int) (k:Nat):List Int:=x.take k++x.drop (k+1)
def turnAt (x:List Int) (k:Nat):List Int:=(x.set k (x.getD ((k+1) % x.length) 0)).set ((k+1) % x.length) (x.getD k 0)
def anMistL (e:Cod.Ear) (x:List Int) (m:List (List Int)):List (Nat×Ann) :=
 [annX 0 Nat (fun st k=>st.hd { live:=[1,2,3,4,5,11,12,13],sav:=[],box:=[5] } [(14,R.int .i64 k)] [] [] [] none)
    (fun _ k=>k≤m.length)
    (fun _ k=>m.length-k),
 annX 2000022 (List Int×List Int) (fun st p=>st.hd { live:=[1,2,3,4,5,11,12,13,17],sav:=[],box:=[5] } [(18,ownAV 148),(19,ownAV 158)] [] [(148,iRow p.1),(158,iRow p.2)] [] none)
    (fun st p=>MistAt e x∧p.1=lessAt x (st.intOf 17).toNat∧p.2=turnAt x (st.intOf 17).toNat)
    (fun _ _=>0)]
def q1y (e:Cod.Ear) (book:q0k) (g:Cod.Giv) (size:Int):Prop:=q2s (e.lang,e.ws) e.c book 8=true∧q2s (e.lang,e.ws) e.c [g] 8=true∧e.proper book=true∧((e.q06 book g size).2=0∨(e.q06 book g size).2=22)
def anGives (e:Cod.Ear) (book:q0k) (g:Cod.Giv) (size:Int) (x:List Int):List (Nat×Ann) :=
 [annX 2000009 Unit (fun st _=>st.hd { live:=[1,2,4,5,6,9,13,14,15],sav:=[],box:=[6,9,14] } [] [] [] [] none) (fun _ _=>q1y e book g size) (fun _ _=>0),
 annX 2000014 Unit (fun st _=>st.hd { live:=[1,2,4,5,6,9,13,14,15],sav:=[],box:=[6,9,14] } [] [] [] [] none) (fun _ _=>q1y e book g size) (fun _ _=>0),
 annX 2000016 Unit (fun st _=>st.hd { live:=[1,2,5,6,9,13],sav:=[],box:=[6,9] } [] [] [] [] none) (fun _ _=>q1y e book g size∧(x.length:Int)=size∧((e.q06 book g size).2=0→Cod.q5m x (e.q06 book g size).1.2.1=true)) (fun _ _=>0)]
def consTexts:List Con:=[qa7,q77,qig,q7r,cEq]
def consApart:List Con:=[qa7,q77,q8b,cMist,cHas,cEq]
def consNearL:List Con:=[qa7,q77,q8b,cMist,cHas,cDist]
def consBooks:List Con:=[qa7,q77,cCodes,cGive,q8b,cSame]
def consMistL:List Con:=[qa7,q77,cMist,cEq,cLess,cHas,q7r,qe9,cNear]
def consGives:List Con:=[qa7,q77,cCodes,cGive,q8b,cSame,cLess]
theorem idx41 {k:Int} (hk:CK.Big ckU8 k) {n:Nat} (hn:0<n):∃ j:Nat,(IntKind.i64.wrap k).tmod (n:Int)=(j:Int)∧j<n:=by
 obtain ⟨h0,h1⟩:=bounds_u8 (show (Lit.int .u8 k).wf=true from hk)
 have hw:IntKind.i64.wrap k=k:=by
  unfold IntKind.wrap
  have e:k % (2 ^ IntKind.i64.bits:Int)=k:=Int.emod_eq_of_lt h0 (by show k<(2:Int) ^ 64; omega)
  rw [e]
  have h2:¬ k ≥ (2 ^ (IntKind.i64.bits-1):Int):=by
   show ¬ k ≥ (2:Int) ^ 63
   omega
  simp only [decide_eq_false h2,Bool.and_false]
  rfl
 rw [hw]
 have hK0:0≤k.tmod (n:Int):=Int.tmod_nonneg _ h0
 have hK1:k.tmod (n:Int)<(n:Int):=Int.tmod_lt_of_pos _ (by omega)
 exact ⟨(k.tmod n).toNat,by omega,by omega⟩
theorem qd2 (e:Cod.Ear) (code:List Int):∀ f i,(e.q0i code f i).length≤f*(e.ws.length+2)
 | 0,_=>Nat.zero_le _
 | f+1,i=>by
  rw [Cod.Ear.q0i,List.length_append,Nat.succ_mul]
  have h1:=qd2 e code f (i+1)
  have h2:(e.q2t code i).length≤e.ws.length+2:=by
   unfold Cod.Ear.q2t
   rw [List.length_append,List.length_map,List.length_cons]
   have:=List.length_filter_le (fun k=>!(k==code.getD i 0)) (e.near (code.getD i 0))
   have:=q66 e (code.getD i 0)
   split
   ·rw [List.length_nil]; omega
   ·rw [List.length_singleton]; omega
  omega
theorem qjd (x:List Int):∀ l:List (List Int),(Cod.putL x l).length≤l.length+1
 | []=>Nat.le_refl _
 | y::r=>by
  rw [Cod.putL]
  have:=qjd x r
  split
  ·rw [List.length_cons]; omega
  ·split <;> simp only [List.length_cons] <;> omega
theorem qgi:∀ l:List (List Int),(Cod.q1u l).length≤l.length
 | []=>Nat.le_refl _
 | y::r=>by
  have h1:=qjd y (Cod.q1u r)
  have h2:=qgi r
  show (Cod.putL y (Cod.q1u r)).length≤r.length+1
  omega
theorem q97 {e:Cod.Ear} {code:List Int} (hw:e.ws.length≤8) (hc:code.length≤8):q5l (Cod.q1u (e.miss code)):=by
 refine ⟨?_,fun x hx=>?_⟩
 ·have h1:=qgi (e.miss code)
  have h2:=qd2 e code code.length 0
  have h3:code.length*(e.ws.length+2)≤8*10:=Nat.mul_le_mul hc (by omega)
  unfold Cod.Ear.miss at *
  omega
 ·rcases Cod.qf3 (Cod.q3e.1 hx) with h | h <;> omega
theorem qks {e:Cod.Ear} {code:List Int} (h:e.ok=true) (hc:Cod.q0p e.lang e.ws code=true):e.q05 code=(Cod.q1u (e.miss code),0):=by
 unfold Cod.Ear.q05
 rw [h,hc]; rfl
theorem qcw {e:Cod.Ear} {book:q0k} (h:e.proper book=true) {i:Nat} (hi:i<book.length):e.q05 (book.getD i Cod.noG).2.1=(Cod.q1u (e.miss (book.getD i Cod.noG).2.1),0):=by
 obtain ⟨h1,_,h3,_⟩:=Cod.q4k.1 h
 have:=h3 _ (Snd.q11 book Cod.noG i hi)
 unfold Cod.okG at this
 simp only [Bool.and_eq_true] at this
 exact qks h1 this.2.2
theorem any_eq_false {l:List (List Int)} {x:List Int} (h:x ∉ l):l.any (fun y=>y==x)=false:=by
 rw [List.any_eq_false]
 intro y hy
 rw [beq_iff_eq]
 rintro rfl
 exact h hy
theorem give_len {e:Cod.Ear} {book:q0k} {g:Cod.Giv} (hg:g.2.1.length≤8) (size:Int):(e.q06 book g size).1.2.1.length≤1000000000000000:=by
 unfold Cod.Ear.q06
 split
 ·exact Nat.zero_le _
 ·rename_i h
  split
  ·exact Nat.zero_le _
  ·split
   ·exact Nat.zero_le _
   ·split
    ·rename_i c hc
     obtain ⟨i,_,_,hci,_⟩:=Cod.qgy hc
     show c.length≤_
     rw [hci,Cod.qe6]
     simp only [Bool.or_eq_true,decide_eq_true_eq,not_or] at h
     omega
    ·exact Nat.zero_le _
end Go.Proofs.YtfecgebhoondjaaGreatDoor
set_option linter.unusedVariables false
namespace Go.Proofs.YtfecgebhoondjaaGreatDoor
open Go.RowKit
open R
def tx41:List UInt8:=[115,101,97,32,98,97,100,32,98,97,110]
def e41:Cod.Ear:=⟨wd41.1,wd41.2,cf41⟩
theorem ex_mist:e41.q05 [0,1,1]=([[0,1],[0,1,2],[0,2,1],[1,0,1],[1,1]],0):=by kernel_rfl
theorem ex_text:Cod.q3j e41.lang e41.ws [3,0,1]=([115,101,97,32,98,97,100,32,98,97,110],0):=by kernel_rfl
theorem ex_code:Cod.q0p e41.lang e41.ws [0,0,0]=true:=by kernel_rfl
theorem ex_give1:e41.q06 [] ([97],[],false,0,0) 3=(ga41,0):=by kernel_rfl
theorem ex_give2:e41.q06 [ga41] ([98],[],false,0,0) 3=(gb41,0):=by kernel_rfl
theorem ex_give3:e41.q06 [ga41,gb41] ([99],[],false,0,0) 3=(gc41,0):=by kernel_rfl
end Go.Proofs.YtfecgebhoondjaaGreatDoor
set_option linter.unusedVariables false
namespace Go.Proofs.YtfecgebhoondjaaGreatDoor
open Go.RowKit
open R
set_option maxRecDepth 100000 in
theorem words41_vc :
  ([(101:UInt8),(110:UInt8)],[[(98:UInt8),(97:UInt8),(100:UInt8)],[(98:UInt8),(97:UInt8),(110:UInt8)],[(112:UInt8),(97:UInt8),(110:UInt8)],[(115:UInt8),(101
  : UInt8),(97:UInt8)]])=wd41
  := by
 rfl
set_option maxRecDepth 100000 in
theorem conf41_vc :
  [([(98:UInt8)],[(112:UInt8)])]=cf41
  := by
 rfl
abbrev q3c:Prop :=
 (([(97:UInt8)]=[(97:UInt8)]∧[(0:Int),(0:Int),(0:Int)]=[(0:Int),(0:Int),(0:Int)]∧false=false∧(0:Int)=0∧(0:Int)=0∧True)∧([(98:UInt8)]=[(98:UInt8)]∧[(0:Int),(0:Int),(1:Int)]=[(0:Int),(0:Int),(1:Int)]∧false=false∧(0:Int)=0∧(0:Int)=0∧True)∧([(99:UInt8)]=[(99:UInt8)]∧Cod.dig wd41.2.length (Int.toNat (3:Int)) ((0:Nat)+(1:Nat)+(1:Nat)+(1:Nat))=[(0:Int),(0:Int),(3:Int)]∧false=false∧(0:Int)=0∧(0:Int)=0∧True)∧True)
abbrev q3b:Prop :=
 (([(97:UInt8)]=[(97:UInt8)]∧[(0:Int),(0:Int),(0:Int)]=[(0:Int),(0:Int),(0:Int)]∧false=false∧(0:Int)=0∧(0:Int)=0∧True)∧([(98:UInt8)]=[(98:UInt8)]∧Cod.dig wd41.2.length (Int.toNat (3:Int)) ((0:Nat)+(1:Nat))=[(0:Int),(0:Int),(1:Int)]∧false=false∧(0:Int)=0∧(0:Int)=0∧True)∧True)
abbrev q37:Prop :=
 (mm41=mm41∧(0:Int)=0∧tx41=tx41∧(0:Int)=0∧True∧(0:Int)=0∧True∧(0:Int)=0∧True∧(e41.q06 [ga41,gb41] ([(99:UInt8)],[],false,(0:Int),(0:Int)) (3:Int)).2=(0:Int)∧True)
abbrev q39:Prop :=
 (mm41=mm41∧(0:Int)=0∧tx41=tx41∧(0:Int)=0∧True∧(0:Int)=0∧True∧(e41.q06 [ga41] ([(98:UInt8)],[],false,(0:Int),(0:Int)) (3:Int)).2=(0:Int)∧True)
abbrev q2v:Prop :=
 (∃ (p':Unit),True∧q39∧q3b∧True∧True∧True∧True∧True∧True∧True∧True)
abbrev q2u:Prop :=
 (∃ (p':Unit),True∧q37∧q3c∧True∧True∧True∧True∧True∧True∧True∧True)
abbrev q3o:Prop :=
 (q0d wd41∧q0h cf41∧q15 [ga41,gb41]∧[(99:UInt8)].length≤(1000:Nat)∧([]:List Int).length≤(1000000:Nat))
abbrev q3m:Prop :=
 (q0d wd41∧q0h cf41∧q15 [ga41]∧[(98:UInt8)].length≤(1000:Nat)∧([]:List Int).length≤(1000000:Nat))
abbrev qey:Prop :=
 (True∧(True∧(q0d wd41∧q0h cf41∧q15 [ga41,ga41])∧(True∧(q0d wd41∧[(0:Int),(0:Int),(0:Int)].length≤(1000000:Nat))∧Cod.q0p wd41.1 wd41.2 [(0:Int),(0:Int),(0:Int)]=true)∧True∧(q0d wd41∧[(0:Int),(0:Int),(0:Int)].length≤(1000000:Nat))∧Cod.q0p wd41.1 wd41.2 [(0:Int),(0:Int),(0:Int)]=true)∧True∧(q0d wd41∧q0h cf41∧q15 [ga41,ga41])∧(True∧(q0d wd41∧[(0:Int),(0:Int),(0:Int)].length≤(1000000:Nat))∧Cod.q0p wd41.1 wd41.2 [(0:Int),(0:Int),(0:Int)]=true)∧True∧(q0d wd41∧[(0:Int),(0:Int),(0:Int)].length≤(1000000:Nat))∧Cod.q0p wd41.1 wd41.2 [(0:Int),(0:Int),(0:Int)]=true)
abbrev qjz:Prop :=
 (True∧(q3m∧q2v∧q2v∧∃ (p':Unit),True∧q39∧q3b∧True∧True∧True∧True∧True∧True∧True∧True)∧q3m∧q2v∧∃ (p':Unit),True∧q39∧q3b∧True∧True∧True∧True∧True∧True∧True∧True)
abbrev qhf:Prop :=
 (True∧(q3o∧q2u∧q2u∧∃ (p':Unit),True∧q37∧q3c∧True∧True∧True∧True∧True∧True∧True∧True)∧q3o∧q2u∧∃ (p':Unit),True∧q37∧q3c∧True∧True∧True∧True∧True∧True∧True∧True)
abbrev q75:Prop :=
 (q0d wd41∧[(0:Int),(0:Int),(0:Int)].length≤(1000000:Nat))
set_option maxRecDepth 100000 in
theorem head41_vc :
  True∧True∧(q0d wd41∧q0h cf41∧[(0:Int),(1:Int),(1:Int)].length≤(1000000:Nat))∧True∧(q0d wd41∧[(3:Int),(0:Int),(1:Int)].length≤(1000000:Nat))∧(True∧True∧(q0d wd41∧q0h cf41∧q15 []∧[(97:UInt8)].length≤(1000:Nat)∧([]:List Int).length≤(1000000:Nat))∧∃ (p':Unit),True∧((e41.q05 [(0:Int),(1:Int),(1:Int)]).1=mm41∧(e41.q05 [(0:Int),(1:Int),(1:Int)]).2=(0:Int)∧(Cod.q3j wd41.1 wd41.2 [(3:Int),(0:Int),(1:Int)]).1=tx41∧(Cod.q3j wd41.1 wd41.2 [(3:Int),(0:Int),(1:Int)]).2=(0:Int)∧True∧(e41.q06 [] ([(97:UInt8)],[],false,(0:Int),(0:Int)) (3:Int)).2=(0:Int)∧True)∧(([(97:UInt8)]=[(97:UInt8)]∧Cod.dig wd41.2.length (Int.toNat (3:Int)) (0:Nat)=[(0:Int),(0:Int),(0:Int)]∧false=false∧(0:Int)=0∧(0:Int)=0∧True)∧True)∧True∧True∧True∧True∧True∧True∧True∧True)∧∀ (p:Unit),True→((True∧(True∧((q3m∧q2v∧q2v∧∃ (p':Unit),True∧q39∧q3b∧True∧True∧True∧True∧True∧True∧True∧True)∧q3m∧q2v∧∃ (p':Unit),True∧q39∧q3b∧True∧True∧True∧True∧True∧True∧True∧True)∧q3m∧q2v∧∃ (p':Unit),True∧q39∧q3b∧True∧True∧True∧True∧True∧True∧True∧True)∧(qjz∧True∧q3m∧q2v∧∃ (p':Unit),True∧q39∧q3b∧True∧True∧True∧True∧True∧True∧True∧True)∧(True∧q3m∧q2v∧∃ (p':Unit),True∧q39∧q3b∧True∧True∧True∧True∧True∧True∧True∧True)∧True∧q3m∧q2v∧∃ (p':Unit),True∧q39∧q3b∧True∧True∧True∧True∧True∧True∧True∧True)∧((True∧qjz∧True∧q3m∧q2v∧∃ (p':Unit),True∧q39∧q3b∧True∧True∧True∧True∧True∧True∧True∧True)∧True∧True∧q3m∧q2v∧∃ (p':Unit),True∧q39∧q3b∧True∧True∧True∧True∧True∧True∧True∧True)∧(True∧(True∧q3m∧q2v∧∃ (p':Unit),True∧q39∧q3b∧True∧True∧True∧True∧True∧True∧True∧True)∧True∧q3m∧q2v∧∃ (p':Unit),True∧q39∧q3b∧True∧True∧True∧True∧True∧True∧True∧True)∧True∧True∧q3m∧q2v∧∃ (p':Unit),True∧q39∧q3b∧True∧True∧True∧True∧True∧True∧True∧True)∧∀ (p:Unit),True→((True∧(True∧((q3o∧q2u∧q2u∧∃ (p':Unit),True∧q37∧q3c∧True∧True∧True∧True∧True∧True∧True∧True)∧q3o∧q2u∧∃ (p':Unit),True∧q37∧q3c∧True∧True∧True∧True∧True∧True∧True∧True)∧q3o∧q2u∧∃ (p':Unit),True∧q37∧q3c∧True∧True∧True∧True∧True∧True∧True∧True)∧(qhf∧True∧q3o∧q2u∧∃ (p':Unit),True∧q37∧q3c∧True∧True∧True∧True∧True∧True∧True∧True)∧(True∧q3o∧q2u∧∃ (p':Unit),True∧q37∧q3c∧True∧True∧True∧True∧True∧True∧True∧True)∧True∧q3o∧q2u∧∃ (p':Unit),True∧q37∧q3c∧True∧True∧True∧True∧True∧True∧True∧True)∧((True∧qhf∧True∧q3o∧q2u∧∃ (p':Unit),True∧q37∧q3c∧True∧True∧True∧True∧True∧True∧True∧True)∧True∧True∧q3o∧q2u∧∃ (p':Unit),True∧q37∧q3c∧True∧True∧True∧True∧True∧True∧True∧True)∧(True∧(True∧q3o∧q2u∧∃ (p':Unit),True∧q37∧q3c∧True∧True∧True∧True∧True∧True∧True∧True)∧True∧q3o∧q2u∧∃ (p':Unit),True∧q37∧q3c∧True∧True∧True∧True∧True∧True∧True∧True)∧True∧True∧q3o∧q2u∧∃ (p':Unit),True∧q37∧q3c∧True∧True∧True∧True∧True∧True∧True∧True)∧∀ (p:Unit),True→q5l mm41∧([(0:Int),(0:Int),(0:Int)].length≤(1000000000000000:Nat)∧[(0:Int),(0:Int),(1:Int)].length≤(1000000000000000:Nat)∧[(0:Int),(0:Int),(3:Int)].length≤(1000000000000000:Nat)∧∃ (p':Unit),True∧(True∧True∧True∧(tx41==tx41)=true∧([(0:Int),(0:Int),(3:Int)]==[(0:Int),(0:Int),(3:Int)])=true∧True)∧(([(97:UInt8)]=[(97:UInt8)]∧[(0:Int),(0:Int),(0:Int)]=[(0:Int),(0:Int),(0:Int)]∧false=false∧(0:Int)=0∧(0:Int)=0∧True)∧([(98:UInt8)]=[(98:UInt8)]∧[(0:Int),(0:Int),(1:Int)]=[(0:Int),(0:Int),(1:Int)]∧false=false∧(0:Int)=0∧(0:Int)=0∧True)∧([(99:UInt8)]=[(99:UInt8)]∧[(0:Int),(0:Int),(3:Int)]=[(0:Int),(0:Int),(3:Int)]∧false=false∧(0:Int)=0∧(0:Int)=0∧True)∧True)∧True∧True∧True∧True∧True∧True∧True∧True)∧∀ (p:Unit),True→(True∧(True∧(q0d wd41∧q0h cf41∧q15 [ga41,gb41,gc41])∧qey∧True∧True∧(q0d wd41∧q0h cf41∧q15 [ga41,ga41])∧(True∧q75∧Cod.q0p wd41.1 wd41.2 [(0:Int),(0:Int),(0:Int)]=true)∧True∧q75∧Cod.q0p wd41.1 wd41.2 [(0:Int),(0:Int),(0:Int)]=true)∧True∧(q0d wd41∧q0h cf41∧q15 [ga41,gb41,gc41])∧qey∧True∧True∧(q0d wd41∧q0h cf41∧q15 [ga41,ga41])∧(True∧q75∧Cod.q0p wd41.1 wd41.2 [(0:Int),(0:Int),(0:Int)]=true)∧True∧q75∧Cod.q0p wd41.1 wd41.2 [(0:Int),(0:Int),(0:Int)]=true)∧True∧True∧(q0d wd41∧q0h cf41∧q15 [ga41,gb41,gc41])∧qey∧True∧True∧(q0d wd41∧q0h cf41∧q15 [ga41,ga41])∧(True∧q75∧Cod.q0p wd41.1 wd41.2 [(0:Int),(0:Int),(0:Int)]=true)∧True∧q75∧Cod.q0p wd41.1 wd41.2 [(0:Int),(0:Int),(0:Int)]=true:=by
 delta q3c q3b q37 q39 q2v q2u q3o q3m qey qjz qhf q75
 have hW:q0d wd41:=⟨by decide,by decide,by decide⟩
 have hC:q0h cf41:=⟨by decide,by decide⟩
 simp only [true_and,and_true,eq_self,and_self,exists_const,forall_const,true_implies]
 have b1:q15 []:=⟨by decide,by decide⟩
 have b2:q15 [ga41]:=⟨by decide,by decide⟩
 have b3:q15 [ga41,gb41]:=⟨by decide,by decide⟩
 have b4:q15 [ga41,gb41,gc41]:=⟨by decide,by decide⟩
 have b5:q15 [ga41,ga41]:=⟨by decide,by decide⟩
 have hL:q5l mm41:=⟨by decide,by decide⟩
 refine ⟨⟨hW,hC,by decide⟩,⟨hW,by decide⟩,⟨⟨hW,hC,b1,by decide,by decide⟩,⟨?_,?_,?_,?_,?_⟩,by decide⟩,⟨⟨hW,hC,b2,by decide,by decide⟩,?_,by decide⟩,⟨⟨hW,hC,b3,by decide,by decide⟩,?_,by decide⟩,hL,⟨by decide,by decide,by decide,by decide,by decide⟩,⟨hW,hC,b4⟩,⟨hW,hC,b5⟩,⟨hW,by decide⟩,ex_code⟩
 ·exact congrArg Prod.fst ex_mist
 ·exact congrArg Prod.snd ex_mist
 ·exact congrArg Prod.fst ex_text
 ·exact congrArg Prod.snd ex_text
 ·exact congrArg Prod.snd ex_give1
 ·exact congrArg Prod.snd ex_give2
 ·exact congrArg Prod.snd ex_give3
end Go.Proofs.YtfecgebhoondjaaGreatDoor
set_option linter.unusedVariables false
namespace Go.Proofs.YtfecgebhoondjaaGreatDoor
open Go.RowKit
open R
set_option maxRecDepth 100000 in
theorem qmv:cWords41.Holds Tryz.prog:=by
 refine q1o (cons:=[]) Tryz.func62 (by kernel_rfl) (by kernel_rfl) mixed (by kernel_rfl) all_nil (fun _=>[]) fun p hp=>?_
 refine cast ?_ words41_vc
 kernel_rfl
set_option maxRecDepth 100000 in
theorem conf41_holds:cConf41.Holds Tryz.prog:=by
 refine q1o (cons:=[]) Tryz.func63 (by kernel_rfl) (by kernel_rfl) mixed (by kernel_rfl) all_nil (fun _=>[]) fun p hp=>?_
 refine cast ?_ conf41_vc
 kernel_rfl
set_option maxRecDepth 100000 in
theorem q5n:qa7.Holds Tryz.prog:=by
 refine q1o (cons:=consHead41) Tryz.func29 (by kernel_rfl) (by kernel_rfl) mixed (by kernel_rfl) (all_cons qmv (all_cons conf41_holds (all_cons q9d (all_cons qg7 (all_cons qeu (all_cons sameL_holds (all_cons q86 (all_cons q6i (all_cons q4u all_nil))))))))) (fun _=>anHead41) fun p hp=>?_
 refine cast ?_ head41_vc
 kernel_rfl
end Go.Proofs.YtfecgebhoondjaaGreatDoor
set_option linter.unusedVariables false
namespace Go.Proofs.YtfecgebhoondjaaGreatDoor
open Go.RowKit Go.ChangeShapes Go.WideShapes
namespace R
def fldK (T:TypeId→Option Kds) (P:Program):List Field→Nat→Option Kds
 | [],_=>none
 | [f],o=>match T f.type with
  | some fs=>bif f.offset.beq o&&(P.cellsOf f.type).beq fs.size then some fs else none
  | none=>none
 | f::g::r,o=>match T f.type,fldK T P (g::r) (o+P.cellsOf f.type) with
  | some fs,some gs=>bif f.offset.beq o&&(P.cellsOf f.type).beq fs.size then some (fs.app gs) else none
  | _,_=>none
def repK (fs:Kds):Nat→Option Kds
 | 0=>none
 | 1=>some fs
 | n+2=>match repK fs (n+1) with
  | some gs=>some (fs.app gs)
  | none=>none
def tyK (P:Program):Nat→TypeId→Option Kds
 | 0,_=>none
 | n+1,t=>match P.underlying t with
  | some (.int k)=>some (.one (.int k))
  | some .bool=>some (.one .bool)
  | some .string=>some (.one .str)
  | some (.slice e)=>match tyK P n e with
   | some fs=>bif (P.cellsOf e).beq fs.size then some (.one (.sl fs)) else none
   | none=>none
  | some (.struct F)=>match fldK (tyK P n) P F.toList 0 with
   | some fs=>bif (P.cellsOf t).beq fs.size then some fs else none
   | none=>none
  | some (.array len e)=>match tyK P n e with
   | some fs=>bif (P.cellsOf e).beq fs.size then (match repK fs len with
    | some gs=>bif (P.cellsOf t).beq gs.size then some gs else none
    | none=>none) else none
   | none=>none
  | _=>none
def ckT (P:Program) (t:TypeId):Option CK :=
 match P.underlying t with
 | some (.struct _)=>(tyK P 20 t).map .agg
 | some (.array _ _)=>none
 | _=>match tyK P 20 t with
  | some (.one k)=>some (.one k)
  | _=>none
def appPay:(fs:Kds)→{gs:Kds}→fs.Pay→gs.Pay→(fs.app gs).Pay
 | .one _,_,p,q=>(p,q)
 | .cons _ ks,_,p,q=>(p.1,appPay ks p.2 q)
theorem qkw:∀ (fs gs:Kds),(fs.app gs).size=fs.size+gs.size
 | .one k,gs=>by show gs.size+1=1+gs.size; omega
 | .cons k ks,gs=>by show (ks.app gs).size+1=ks.size+1+gs.size; rw [qkw]; omega
theorem app_big:∀ (fs:Kds) {gs:Kds} (p:fs.Pay) (q:gs.Pay),fs.Big p→gs.Big q→(fs.app gs).Big (appPay fs p q)
 | .one k,gs,p,q,hp,hq=>⟨hp,hq⟩
 | .cons k ks,gs,p,q,hp,hq=>⟨hp.1,app_big ks p.2 q hp.2 hq⟩
section
variable {H:Type} {enc:TypeId×Value→H} {P:Program} {w:World} {base:Nat} {spare:Nat→Bool} {held:Bool}
theorem qgp:∀ (fs:Kds) {gs:Kds} (p:fs.Pay) (q:gs.Pay) (cs ds:List Value),q31 w fs p cs→q31 w gs q ds→q31 w (fs.app gs) (appPay fs p q) (cs++ds)
 | .one k,gs,p,q,cs,ds,hp,hq=>by
  obtain ⟨v,rfl,hv⟩:=hp
  exact ⟨v,ds,rfl,hv,hq⟩
 | .cons k ks,gs,p,q,cs,ds,hp,hq=>by
  obtain ⟨v,r,rfl,hv,hr⟩:=hp
  exact ⟨v,r++ds,rfl,hv,qgp ks p.2 q r ds hr hq⟩
def Opens (enc:TypeId×Value→H) (P:Program) (w:World) (base:Nat) (spare:Nat→Bool) (held:Bool) (t:TypeId) (fs:Kds):Prop :=
 ∀ (fuel:Nat) (cs:List Value) (x:DataW H×List MemPlace),DataW.trod enc P w base spare held fuel t cs=some x→∃ p,q31 w fs p cs∧fs.Big p
theorem fld_opens {T:TypeId→Option Kds} (hT:∀ t fs,T t=some fs→Opens enc P w base spare held t fs):∀ (l:List Field) (o:Nat) (fs:Kds),fldK T P l o=some fs→∀ (n:Nat) (cs:List Value),cs.length=o+fs.size →
  (∀ (i:Nat) (f:Field),l[i]? = some f→∃ y,DataW.trod enc P w base spare held n f.type ((cs.drop f.offset).take (P.cellsOf f.type))=some y)→∃ p,q31 w fs p (cs.drop o)∧fs.Big p
 | [],o,fs,h,n,cs,hc,hx=>by cases h
 | [f],o,fs,h,n,cs,hc,hx=>by
  have h:(match T f.type with
   | some fs=>bif f.offset.beq o&&(P.cellsOf f.type).beq fs.size then some fs else none
   | none=>none)=some fs:=h
  split at h
  ·rename_i gs hg
   cases hb:(f.offset.beq o&&(P.cellsOf f.type).beq gs.size)
   ·rw [hb] at h; cases h
   ·rw [hb] at h
    injection h with h; subst h
    rw [Bool.and_eq_true] at hb
    have h1:=Nat.eq_of_beq_eq_true hb.1
    have h2:=Nat.eq_of_beq_eq_true hb.2
    obtain ⟨y,hy⟩:=hx 0 f rfl
    rw [h1,h2,List.take_of_length_le (by rw [List.length_drop]; omega)] at hy
    exact hT _ _ hg n _ y hy
  ·cases h
 | f::g::r,o,fs,h,n,cs,hc,hx=>by
  have h:(match T f.type,fldK T P (g::r) (o+P.cellsOf f.type) with
   | some fs,some gs=>bif f.offset.beq o&&(P.cellsOf f.type).beq fs.size then some (fs.app gs) else none
   | _,_=>none)=some fs:=h
  split at h
  ·rename_i k1 k2 hg hr
   cases hb:(f.offset.beq o&&(P.cellsOf f.type).beq k1.size)
   ·rw [hb] at h; cases h
   ·rw [hb] at h
    injection h with h; subst h
    rw [Bool.and_eq_true] at hb
    have h1:=Nat.eq_of_beq_eq_true hb.1
    have h2:=Nat.eq_of_beq_eq_true hb.2
    rw [qkw] at hc
    obtain ⟨y,hy⟩:=hx 0 f rfl
    rw [h1,h2] at hy
    obtain ⟨p,hp,hbp⟩:=hT _ _ hg n _ y hy
    obtain ⟨q,hq,hbq⟩:=fld_opens hT (g::r) _ k2 hr n cs (by omega) fun i f' hi=>hx (i+1) f' hi
    refine ⟨appPay k1 p q,?_,app_big k1 p q hbp hbq⟩
    have:=qgp k1 p q _ _ hp hq
    rw [h2,← List.drop_drop,List.take_append_drop] at this
    exact this
  ·cases h
theorem rep_opens {e:TypeId} {fs:Kds} (hT:Opens enc P w base spare held e fs) (hce:P.cellsOf e=fs.size):∀ (len:Nat) (gs:Kds),repK fs len=some gs→∀ (n i0:Nat) (cs:List Value),cs.length=i0*fs.size+gs.size →
  (∀ (i:Nat),i<len→∃ y,DataW.trod enc P w base spare held n e ((cs.drop ((i0+i)*P.cellsOf e)).take (P.cellsOf e))=some y)→∃ p,q31 w gs p (cs.drop (i0*fs.size))∧gs.Big p
 | 0,gs,h,n,i0,cs,hc,hx=>by cases h
 | 1,gs,h,n,i0,cs,hc,hx=>by
  have h:some fs=some gs:=h
  injection h with h; subst h
  obtain ⟨y,hy⟩:=hx 0 Nat.one_pos
  rw [hce,Nat.add_zero,List.take_of_length_le (by rw [List.length_drop]; omega)] at hy
  exact hT n _ y hy
 | len+2,gs,h,n,i0,cs,hc,hx=>by
  have h:(match repK fs (len+1) with
   | some gs=>some (fs.app gs)
   | none=>none)=some gs:=h
  split at h
  ·rename_i k2 hr
   injection h with h; subst h
   rw [qkw] at hc
   obtain ⟨y,hy⟩:=hx 0 (by omega)
   rw [hce,Nat.add_zero] at hy
   obtain ⟨p,hp,hbp⟩:=hT n _ y hy
   obtain ⟨q,hq,hbq⟩:=rep_opens hT hce (len+1) k2 hr n (i0+1) cs (by rw [Nat.succ_mul]; omega) fun i hi=>by
    have:=hx (i+1) (by omega)
    rwa [show i0+1+i=i0+(i+1) by omega]
   refine ⟨appPay fs p q,?_,app_big fs p q hbp hbq⟩
   have:=qgp fs p q _ _ hp hq
   rw [Nat.succ_mul,← List.drop_drop,List.take_append_drop] at this
   exact this
  ·cases h
theorem qcg:∀ (n:Nat) (t:TypeId) (fs:Kds),tyK P n t=some fs→Opens enc P w base spare held t fs
 | 0,t,fs,h=>by cases h
 | n+1,t,fs,h=>by
  intro fuel cs x hx
  unfold tyK at h
  split at h
  ·rename_i k hu
   injection h with h; subst h
   obtain ⟨m,h1,h2,h3⟩:=DataW.trod_int hu hx
   exact ⟨m,⟨_,h1,rfl⟩,by first | exact h3 | exact h3.1 | exact h3.2⟩
  ·rename_i hu
   injection h with h; subst h
   obtain ⟨b,h1,_⟩:=DataW.trod_bool hu hx
   exact ⟨b,⟨_,h1,rfl⟩,trivial⟩
  ·rename_i hu
   injection h with h; subst h
   obtain ⟨s,h1,_,h3⟩:=DataW.trod_string hu hx
   exact ⟨s.data.toList,⟨_,h1,rfl⟩,h3⟩
  ·rename_i e hu
   split at h
   ·rename_i gs hg
    cases hb:(P.cellsOf e).beq gs.size
    ·rw [hb] at h; cases h
    ·rw [hb] at h
     injection h with h; subst h
     have hce:=Nat.eq_of_beq_eq_true hb
     have hO:=qcg n e gs hg
     rcases Go.Deep.open_slice hu hx with ⟨rfl,_⟩ | ⟨a,len,cap,m,k,D,Pl,rfl,hbb,hlc,hm,hmm,_,hxx⟩
     ·exact ⟨([]:List gs.Pay),⟨_,rfl,none,0,rfl,Nat.le_refl _,fun h=>absurd h (Nat.lt_irrefl _)⟩,Nat.zero_le _,fun x h=>by cases h⟩
     ·have hlm:len≤m:=by rw [hmm]; split <;> omega
      have each:∀ i,i<len→∃ p:gs.Pay,∀ g o,a=⟨g,o,none⟩→gs.Rep w (Here w) p g (o+i*gs.size)∧gs.Big p:=fun i hi=>by
       obtain ⟨cs',h1,h2⟩:=hxx i (by omega)
       obtain ⟨p,hp,hbig⟩:=hO k cs' _ h2
       refine ⟨p,fun g o ha=>⟨q31.row gs p cs' g _ hp fun j hj=>?_,hbig⟩⟩
       subst ha
       obtain ⟨_,hl,hc⟩:=World.cells?_some h1
       have:=hc j (by omega)
       rw [add_pl',add_pl',hce] at this
       exact this
      obtain ⟨f,hf⟩:∃ f:Nat→gs.Pay,∀ i,i<len→∀ g o,a=⟨g,o,none⟩→gs.Rep w (Here w) (f i) g (o+i*gs.size)∧gs.Big (f i):=by
       haveI:Inhabited gs.Pay:=⟨gs.dflt⟩
       exact Go.Deep.choose_lt each
      have hlen:((List.range len).map f).length=len:=by simp
      have hpl:0<len→∃ g o,a=⟨g,o,none⟩∧g<w.heap.size:=fun hpos=>by
       obtain ⟨cs',h1,_⟩:=hxx 0 (by omega)
       obtain ⟨_,hl,hc⟩:=World.cells?_some h1
       have:=hc 0 (by rw [hce]; exact gs.q8c)
       rw [Nat.zero_mul] at this
       have hlt:0<cs'.length:=by rw [hl,hce]; exact gs.q8c
       rw [List.getElem?_eq_getElem hlt] at this
       have ha:a.add 0=a:=by unfold Addr.add; simp
       rw [ha] at this
       exact cell_plain' this
      refine ⟨((List.range len).map f:List gs.Pay),⟨_,rfl,some a,cap,by rw [hlen],by rw [hlen]; exact hlc,fun hpos=>?_⟩,?_,?_⟩
      ·rw [hlen] at hpos
       obtain ⟨g,o,rfl,hg⟩:=hpl hpos
       refine ⟨g,o,rfl,hg,hg,fun i x hi=>?_⟩
       have hil:i<len:=by
        rcases Nat.lt_or_ge i len with h' | h'
        ·exact h'
        ·rw [List.getElem?_eq_none (by rw [hlen]; exact h')] at hi; cases hi
       rw [List.getElem?_map,List.getElem?_range hil] at hi
       injection hi with hi
       subst hi
       exact (hf i hil g o rfl).1
      ·rw [hlen]; unfold maxLen at hm; omega
      ·intro x hx'
       obtain ⟨i,hi,rfl⟩:=List.mem_map.1 hx'
       have hi:=List.mem_range.1 hi
       obtain ⟨g,o,ha,hg⟩:=hpl (by omega)
       exact (hf i hi g o ha).2
   ·cases h
  ·rename_i F hu
   split at h
   ·rename_i gs hg
    cases hb:(P.cellsOf t).beq gs.size
    ·rw [hb] at h; cases h
    ·rw [hb] at h
     injection h with h; subst h
     have hct:=Nat.eq_of_beq_eq_true hb
     obtain ⟨xs,m,rfl,_,hl,hxl,hxx⟩:=DataW.trod_struct hu hx
     have:=fld_opens (qcg n) F.toList 0 gs hg m cs (by omega) fun i f hi=>by
      have h1:F[i]? = some f:=by rw [← Array.getElem?_toList]; exact hi
      have h2:=hxx i f h1
      have hil:i<xs.length:=by
       rw [hxl]
       exact (Array.getElem?_eq_some_iff.1 h1).1
      rw [List.getElem?_eq_getElem hil] at h2
      exact ⟨_,h2⟩
     rwa [List.drop_zero] at this
   ·cases h
  ·rename_i len e hu
   split at h
   ·rename_i fs1 hg
    cases hb1:(P.cellsOf e).beq fs1.size
    ·rw [hb1] at h; cases h
    ·rw [hb1] at h
     have hce:=Nat.eq_of_beq_eq_true hb1
     dsimp only [cond_true] at h
     split at h
     ·rename_i gs hr
      cases hb:(P.cellsOf t).beq gs.size
      ·rw [hb] at h; cases h
      ·rw [hb] at h
       injection h with h; subst h
       have hct:=Nat.eq_of_beq_eq_true hb
       obtain ⟨xs,m,rfl,_,hl,hxl,hxx⟩:=DataW.trod_array hu hx
       have:=rep_opens (qcg n e fs1 hg) hce len gs hr m 0 cs (by omega) fun i hi=>by
        have h2:=hxx i hi
        rw [List.getElem?_eq_getElem (by omega)] at h2
        rw [Nat.zero_add]
        exact ⟨_,h2⟩
       rwa [Nat.zero_mul,List.drop_zero] at this
     ·cases h
   ·cases h
  ·cases h
theorem q0y {r:Reach} {b0:Nat} (x:CK) (t:TypeId) (ht:ckT P t=some x) {v:Value} {d:DataW H} {ps:List MemPlace} (hv:Value.okWide P w r b0 t v) (h:DataW.Trod enc P w base spare held t v d ps) :
  ∃ p:x.Pay,(x.comp p).Rep (Cx.of (Here w)) w v∧x.Big p:=by
 obtain ⟨fuel,hf⟩:=h
 unfold ckT at ht
 split at ht
 ·rename_i F hu
  cases hk:tyK P 20 t with
  | none=>rw [hk] at ht; cases ht
  | some ks =>
   rw [hk] at ht
   injection ht with ht; subst ht
   obtain ⟨cs,rfl,hsz⟩:=okWide_struct hu hv
   obtain ⟨p,hp,hb⟩:=qcg 20 t ks hk fuel _ _ hf
   obtain ⟨h1,h2,h3⟩:=q31.reps ks p _ hp
   refine ⟨p,⟨cs,rfl,?_,fun i c hi=>?_,fun i u hi=>?_⟩,hb⟩
   ·rw [← h3]; simp [Value.cells]
   ·obtain ⟨u,hu,hr⟩:=h1 i c hi
    exact ⟨u,by simpa [Value.cells] using hu,hr⟩
   ·exact h2 i u (by simpa [Value.cells] using hi)
 ·cases ht
 ·rename_i hns hna
  split at ht
  ·rename_i k hk
   injection ht with ht; subst ht
   have hone:v.cells.toList=[v]:=by
    unfold tyK at hk
    split at hk
    ·rename_i hu; obtain ⟨n,rfl⟩:=okWide_int hu hv; rfl
    ·rename_i hu; obtain ⟨n,rfl⟩:=okWide_bool hu hv; rfl
    ·rename_i hu; obtain ⟨n,rfl⟩:=okWide_string hu hv; rfl
    ·rename_i hu; obtain ⟨a,n,c,rfl⟩:=okWide_slice hu hv; rfl
    ·rename_i hu; exact absurd hu (hns _)
    ·rename_i hu; exact absurd hu (hna _ _)
    ·cases hk
   obtain ⟨p,⟨v',h1,h2⟩,h3⟩:=qcg 20 t (.one k) hk fuel _ _ hf
   rw [hone] at h1
   injection h1 with h1
   subst h1
   exact ⟨p,h2,h3⟩
  ·cases ht
end
end R
end Go.Proofs.YtfecgebhoondjaaGreatDoor
set_option linter.unusedVariables false
namespace Go.Proofs.YtfecgebhoondjaaGreatDoor
namespace Cod
theorem ok_out {e:Ear} (h:e.ok=true):Snd.q0j e.lang e.ws=true∧Snd.q0o e.c=true:=by
 unfold Ear.ok at h
 rwa [Bool.and_eq_true] at h
theorem word_heard {lang:Str} {ws:List Str} (hv:Snd.q0j lang ws=true) {i:Nat} (hi:i<ws.length):Snd.heardB (ws.getD i [])=true:=by
 unfold Snd.q0j at hv
 simp only [Bool.and_eq_true,List.all_eq_true] at hv
 have h:=hv.2.2.2.1 _ (Snd.q11 ws [] i hi)
 unfold Snd.heardB
 unfold Snd.q0r at *
 simp only [Bool.and_eq_true,decide_eq_true_eq] at *
 exact ⟨h.1,by omega,by omega⟩
theorem near_val {e:Ear} (h:e.ok=true) {w:Int} (h0:0≤w) (h1:w<(e.ws.length:Int)):Snd.q0u e.lang e.ws e.c (e.ws.getD w.toNat [])=(Snd.q7l e.ws e.c (e.ws.getD w.toNat []) e.ws.length,0):=by
 obtain ⟨hv,hp⟩:=ok_out h
 unfold Snd.q0u
 rw [hv,hp,word_heard hv (show w.toNat<e.ws.length by omega)]; rfl
theorem qfa {e:Ear} (h:e.ok=true) {w k:Int} (h0:0≤w) (h1:w<(e.ws.length:Int)):k∈e.near w↔∃ j:Nat,k=j∧j<e.ws.length∧Snd.q5s e.c (e.ws.getD j []) (e.ws.getD w.toNat [])=true:=by
 unfold Ear.near
 rw [near_val h h0 h1]
 exact Snd.mem_nearL
theorem near_self {e:Ear} (h:e.ok=true) {w:Int} (h0:0≤w) (h1:w<(e.ws.length:Int)):w∈e.near w :=
 (qfa h h0 h1).2 ⟨w.toNat,by omega,by omega,by unfold Snd.q5s; rw [beq_self_eq_true]; rfl⟩
theorem near_in {e:Ear} (h:e.ok=true) {w k:Int} (h0:0≤w) (h1:w<(e.ws.length:Int)) (hk:k∈e.near w):0≤k∧k<(e.ws.length:Int):=by
 obtain ⟨j,rfl,hj,_⟩:=(qfa h h0 h1).1 hk
 omega
theorem near_back {e:Ear} (h:e.ok=true) {w k:Int} (h0:0≤w) (h1:w<(e.ws.length:Int)) (hk:k∈e.near w):w∈e.near k:=by
 obtain ⟨k0,k1⟩:=near_in h h0 h1 hk
 obtain ⟨j,rfl,hj,hs⟩:=(qfa h h0 h1).1 hk
 refine (qfa h k0 k1).2 ⟨w.toNat,by omega,by omega,?_⟩
 rw [Int.toNat_natCast,Snd.qdp]
 exact hs
theorem in_getD {n:Nat} {x:List Int} (h:inB n x=true) {i:Nat} (hi:i<x.length):0≤x.getD i 0∧x.getD i 0<(n:Int):=by
 unfold inB at h
 rw [List.all_eq_true] at h
 have:=h _ (Snd.q11 x 0 i hi)
 rw [Bool.and_eq_true,decide_eq_true_eq,decide_eq_true_eq] at this
 exact this
theorem in_set {n:Nat} {x:List Int} (h:inB n x=true) {i:Nat} {k:Int} (h0:0≤k) (h1:k<(n:Int)):inB n (x.set i k)=true:=by
 unfold inB at *
 rw [List.all_eq_true] at *
 intro y hy
 rcases List.mem_or_eq_of_mem_set hy with h' | rfl
 ·exact h y h'
 ·rw [Bool.and_eq_true,decide_eq_true_eq,decide_eq_true_eq]; exact ⟨h0,h1⟩
theorem code_of {lang:Str} {ws:List Str} {x z:List Int} (h:q0p lang ws x=true) (hl:z.length=x.length) (hz:inB ws.length z=true):q0p lang ws z=true:=by
 obtain ⟨h1,h2,_⟩:=q72 h
 unfold q0p
 rw [h1,hz,decide_eq_true (show (3:Int)≤(z.length:Int) by omega),decide_eq_true (show (z.length:Int)≤5 by omega)]; rfl
theorem q6h {x:List Int} {i:Nat} {k:Int} (hi:i<x.length):(x.set i k).getD i 0=k:=by
 rw [List.getD_eq_getElem?_getD,List.getElem?_set_self hi]; rfl
theorem qm9 {x:List Int} {i j:Nat} {k:Int} (h:i≠j):(x.set i k).getD j 0=x.getD j 0:=by
 rw [List.getD_eq_getElem?_getD,List.getElem?_set_ne h,← List.getD_eq_getElem?_getD]
theorem qa6 {x:List Int} {i:Nat} (hi:i<x.length):x.set i (x.getD i 0)=x:=by
 rw [List.getD_eq_getElem?_getD,List.getElem?_eq_getElem hi]
 exact List.set_getElem_self hi
theorem qk5 {x:List Int} {i:Nat} (hi:i<x.length) (h0:i≠0):(swapAt x i).getD i 0=x.getD (i-1) 0∧(swapAt x i).getD (i-1) 0=x.getD i 0:=by
 unfold swapAt
 refine ⟨?_,?_⟩
 ·rw [qm9 (by omega),q6h hi]
 ·rw [q6h (by rw [List.length_set]; omega)]
theorem swap_swap {x:List Int} {i:Nat} (hi:i<x.length) (h0:i≠0):swapAt (swapAt x i) i=x:=by
 obtain ⟨e1,e2⟩:=qk5 hi h0
 have hd:swapAt (swapAt x i) i=((swapAt x i).set i ((swapAt x i).getD (i-1) 0)).set (i-1) ((swapAt x i).getD i 0):=rfl
 rw [hd,e1,e2]
 unfold swapAt
 rw [List.set_comm (x.getD i 0) (x.getD i 0) (show i-1≠i by omega),List.set_set,List.set_set,List.set_comm _ _ (show i≠i-1 by omega),qa6 (show i-1<x.length by omega),qa6 hi]
theorem qie {e:Ear} {x z:List Int} (hz:z∈e.miss x):z≠x:=by
 obtain ⟨i,hi,hz⟩:=(q4s e x z).1 hz
 rcases (q3s e x z i).1 hz with ⟨k,_,hk,rfl⟩ | rfl | ⟨hn,rfl⟩
 ·intro h
  have:=q6h (x:=x) (k:=k) hi
  rw [h] at this
  exact hk this.symm
 ·intro h
  have:=congrArg List.length h
  rw [List.length_eraseIdx_of_lt hi] at this
  omega
 ·intro h
  have h0:i≠0:=fun h=>hn (.inl h)
  have:=(qk5 hi h0).1
  rw [h] at this
  exact hn (.inr this.symm)
theorem miss_back {e:Ear} (h:e.ok=true) {x z:List Int} (hc:q0p e.lang e.ws x=true) (hz:z∈e.miss x) (hl:z.length=x.length):q0p e.lang e.ws z=true∧x∈e.miss z:=by
 obtain ⟨_,_,hin⟩:=q72 hc
 obtain ⟨i,hi,hz⟩:=(q4s e x z).1 hz
 obtain ⟨w0,w1⟩:=in_getD hin hi
 rcases (q3s e x z i).1 hz with ⟨k,hk,hne,rfl⟩ | rfl | ⟨hn,rfl⟩
 ·obtain ⟨k0,k1⟩:=near_in h w0 w1 hk
  refine ⟨code_of hc hl (in_set hin k0 k1),(q4s e _ x).2 ⟨i,by rw [List.length_set]; exact hi,(q3s e _ x i).2 (.inl ⟨x.getD i 0,?_,?_,?_⟩)⟩⟩
  ·rw [q6h hi]; exact near_back h w0 w1 hk
  ·rw [q6h hi]; exact fun h=>hne h.symm
  ·rw [List.set_set,qa6 hi]
 ·rw [List.length_eraseIdx_of_lt hi] at hl; omega
 ·have h0:i≠0:=fun h=>hn (.inl h)
  obtain ⟨v0,v1⟩:=in_getD hin (show i-1<x.length by omega)
  obtain ⟨e1,e2⟩:=qk5 hi h0
  refine ⟨code_of hc hl (in_set (in_set hin v0 v1) w0 w1),(q4s e _ x).2 ⟨i,by rw [swap_len]; exact hi,(q3s e _ x i).2 (.inr (.inr ⟨?_,(swap_swap hi h0).symm⟩))⟩⟩
  rw [e1,e2]
  rintro (h | h)
  ·exact h0 h
  ·exact hn (.inr h.symm)
theorem swap_succ {x:List Int} {k:Nat} (hk:k+1<x.length):swapAt x (k+1)=(x.set k (x.getD (k+1) 0)).set (k+1) (x.getD k 0):=by
 unfold swapAt
 rw [Nat.add_sub_cancel,List.set_comm _ _ (show k+1≠k by omega)]
theorem mem_swap {e:Ear} {x:List Int} {k:Nat} (hk:k+1<x.length) (hne:x.getD k 0≠x.getD (k+1) 0):(x.set k (x.getD (k+1) 0)).set (k+1) (x.getD k 0)∈e.miss x:=by
 rw [← swap_succ hk]
 exact (q4s e x _).2 ⟨k+1,hk,(q3s e x _ _).2 (.inr (.inr ⟨fun h=>h.elim (by omega) fun h=>hne h,rfl⟩))⟩
theorem swap_same {x:List Int} {k:Nat} (hk:k+1<x.length) (he:x.getD k 0=x.getD (k+1) 0):(x.set k (x.getD (k+1) 0)).set (k+1) (x.getD k 0)=x:=by
 rw [← he,qa6 (by omega),he,qa6 hk]
theorem qm1 {e:Ear} {x:List Int} {k:Nat} (hk:k<x.length):x.eraseIdx k∈e.miss x :=
 (q4s e x _).2 ⟨k,hk,(q3s e x _ _).2 (.inr (.inl rfl))⟩
theorem heard_miss {e:Ear} {x:List Int} {k:Nat} {v:Int} (hk:k<x.length) (hv:v∈e.near (x.getD k 0)) (hne:v≠x.getD k 0):x.set k v∈e.miss x :=
 (q4s e x _).2 ⟨k,hk,(q3s e x _ _).2 (.inl ⟨v,hv,hne,rfl⟩)⟩
theorem dig_code {e:Ear} (h:e.ok=true) {s:Nat} (h3:3≤s) (h5:s≤5) (k:Nat):q0p e.lang e.ws (dig e.ws.length s k)=true:=by
 have hn:0<e.ws.length:=by
  unfold Ear.ok Snd.q0j at h
  simp only [Bool.and_eq_true,decide_eq_true_eq] at h
  omega
 unfold q0p
 rw [dig_in hn,qe6,decide_eq_true (show (3:Int)≤(s:Int) by omega),decide_eq_true (show (s:Int)≤5 by omega),(ok_out h).1]; rfl
def GiveOk (e:Ear) (book:List Giv) (g:Giv) (size:Int):Prop:=e.proper book=true∧(3≤size∧size≤5)∧g.2.1=[]∧Lx.q1l g.1=true∧q28 g=true∧book.any (fun x=>x.1==g.1)=false
theorem give_cases {e:Ear} {book:List Giv} {g:Giv} {size:Int} (hl:book.length≠20000):e.q06 book g size=(noG,1)∨e.q06 book g size=(noG,8)∨(GiveOk e book g size ∧
  ((e.q06 book g size=(noG,22)∧∀ j,j<e.ws.length ^ size.toNat→e.takes book (q1b g (dig e.ws.length size.toNat j))=false) ∨
   ∃ i,i<e.ws.length ^ size.toNat∧e.q06 book g size=(q1b g (dig e.ws.length size.toNat i),0)∧e.takes book (q1b g (dig e.ws.length size.toNat i))=true∧∀ j,j<i→e.takes book (q1b g (dig e.ws.length size.toNat j))=false)):=by
 unfold Ear.q06
 split
 ·exact .inl rfl
 ·rename_i hc
  split
  ·exact .inr (.inl rfl)
  ·rename_i ha
   simp only [Bool.or_eq_true,decide_eq_true_eq,not_or,Bool.not_eq_true',Bool.not_eq_false] at hc
   obtain ⟨⟨⟨⟨⟨c1,c2⟩,c3⟩,c4⟩,c5⟩,c6⟩:=hc
   refine .inr (.inr ⟨⟨c1,⟨by omega,by omega⟩,List.eq_nil_of_length_eq_zero (by omega),c5,c6,Bool.not_eq_true _▸ha⟩,?_⟩)
   cases ht:e.tryG book g size.toNat (e.ws.length ^ size.toNat) 0 with
   | none=>exact .inl ⟨rfl,fun j hj=>tryG_none ht j (Nat.zero_le _) (by omega)⟩
   | some c =>
    obtain ⟨i,h1,h2,rfl,h4,h5⟩:=qgy ht
    exact .inr ⟨i,by omega,rfl,h4,fun j hj=>h5 j (Nat.zero_le _) hj⟩
theorem takes_iff {e:Ear} {book:List Giv} {g:Giv}:e.takes book g=true↔∀ o∈book,e.apart o g=true:=by
 unfold Ear.takes
 rw [List.all_eq_true]
theorem proper_snoc {e:Ear} {book:List Giv} {p:Giv} (h:e.proper book=true) (hl:book.length<20000) (ho:okG e p=true) (hd:book.any (fun x=>x.1==p.1)=false) (ht:e.takes book p=true):e.proper (book++[p])=true:=by
 obtain ⟨h1,_,h3,h4⟩:=q4k.1 h
 refine q4k.2 ⟨h1,by rw [List.length_append,List.length_singleton]; omega,fun g hg=>?_,?_⟩
 ·rcases List.mem_append.1 hg with hg | hg
  ·exact h3 g hg
  ·rw [List.mem_singleton.1 hg]; exact ho
 ·rw [List.pairwise_append]
  refine ⟨h4,List.pairwise_singleton _ _,fun o ho g hg=>?_⟩
  rw [List.mem_singleton.1 hg]
  rw [List.any_eq_false] at hd
  exact ⟨fun he=>hd o ho (by rw [he]; simp),takes_iff.1 ht o ho⟩
theorem proper_last {e:Ear} {book:List Giv} {p:Giv} (h:e.proper (book++[p])=true):okG e p=true∧e.takes book p=true:=by
 obtain ⟨_,_,h3,h4⟩:=q4k.1 h
 rw [List.pairwise_append] at h4
 exact ⟨h3 p (List.mem_append_right _ (List.mem_singleton.2 rfl)),takes_iff.2 fun o ho=>(h4.2.2 o ho p (List.mem_singleton.2 rfl)).2⟩
theorem give_proper {e:Ear} {book:List Giv} {g:Giv} {size:Int} {i:Nat} (h:GiveOk e book g size) (hl:book.length<20000) (ht:e.takes book (q1b g (dig e.ws.length size.toNat i))=true):e.proper (book++[q1b g (dig e.ws.length size.toNat i)])=true:=by
 obtain ⟨h1,⟨h2,h3⟩,h4,h5,h6,h7⟩:=h
 refine proper_snoc h1 hl ?_ h7 ht
 have hok:=(q4k.1 h1).1
 unfold okG
 rw [show (q1b g (dig e.ws.length size.toNat i)).2.1=dig e.ws.length size.toNat i from rfl,dig_code hok (by omega) (by omega),show Lx.q1l (q1b g (dig e.ws.length size.toNat i)).1=true from h5,show q28 (q1b g (dig e.ws.length size.toNat i))=true from h6]; rfl
theorem give_least {e:Ear} {book:List Giv} {g:Giv} {x:List Int} {m:Nat} (hx:∀ j,j<m→e.takes book (q1b g (dig e.ws.length x.length j))=false) (hm:inB e.ws.length x=true→∃ j,j<m∧x=dig e.ws.length x.length j):e.proper (book++[q1b g x])=false:=by
 cases hp:e.proper (book++[q1b g x])
 ·rfl
 ·obtain ⟨h1,h2⟩:=proper_last hp
  unfold okG at h1
  simp only [Bool.and_eq_true] at h1
  obtain ⟨_,_,hin⟩:=q72 h1.2.2
  obtain ⟨j,hj,e1⟩:=hm hin
  have:=hx j hj
  rw [← e1,h2] at this
  cases this
end Cod
end Go.Proofs.YtfecgebhoondjaaGreatDoor

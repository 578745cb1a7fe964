/-
  CodeMistakes.
-/
import Derived.Test.YtfecgebhoondjaaGreatDoorPT
set_option linter.unusedVariables false
namespace Go.Proofs.YtfecgebhoondjaaGreatDoor
open Go.RowKit
open R
theorem bif_tail4 {c d:Bool} {A B C D F T:Prop} (h:c=true→A∧B∧C∧D∧d=false) (t:T):bif c then (A∧B∧C∧D∧bif d then F else T) else T:=by
 cases c
 ·exact t
 ·obtain ⟨h1,h2,h3,h4,rfl⟩:=h rfl
  exact ⟨h1,h2,h3,h4,t⟩
theorem bif_tail3 {c d:Bool} {A B F T:Prop} (h:c=true→A∧B∧d=false) (t:T):bif c then (A∧B∧bif d then F else T) else T:=by
 cases c
 ·exact t
 ·obtain ⟨h1,h2,rfl⟩:=h rfl
  exact ⟨h1,h2,t⟩
abbrev q58 (e:Cod.Ear) (one:Int) (p:Nat) (p':Nat) (two:Int) (x:List Int):Prop :=
 ((p:Int)+1=(p':Int)∧e.c=e.c∧x=x∧one=one∧two=two∧True∧true=true∧(e.q05 x).1=(e.q05 x).1∧(e.q05 x).2=(e.q05 x).2∧True)
abbrev q2f (e:Cod.Ear) (p:Nat) (x:List Int):Prop :=
 (0≤(p:Int)∧(p:Int)<(↑(e.q05 x).1.length:Int))
abbrev q62 (one:Int) (x:List Int):Prop :=
 ((0:Int)≤(IntKind.i64.wrap one).tmod (x.length:Int)∧(IntKind.i64.wrap one).tmod (x.length:Int)<(x.length:Int))
abbrev qh1 (e:Cod.Ear) (one:Int) (two:Int) (x:List Int):Prop :=
 ((0:Int)≤(IntKind.i64.wrap two).tmod (↑(Snd.q0u e.lang e.ws e.c (e.ws.getD (x.getD ((IntKind.i64.wrap one).tmod (x.length:Int)).toNat (0:Int)).toNat [])).1.length:Int)∧(IntKind.i64.wrap two).tmod (↑(Snd.q0u e.lang e.ws e.c (e.ws.getD (x.getD ((IntKind.i64.wrap one).tmod (x.length:Int)).toNat (0:Int)).toNat [])).1.length:Int)<(↑(Snd.q0u e.lang e.ws e.c (e.ws.getD (x.getD ((IntKind.i64.wrap one).tmod (x.length:Int)).toNat (0:Int)).toNat [])).1.length:Int))
abbrev q4a (e:Cod.Ear):Prop :=
 ((e.lang=e.lang∧e.ws=e.ws∧True)∧True)
abbrev qb4 (e:Cod.Ear) (p:Nat) (x:List Int):Prop :=
 (q0c (e.lang,e.ws)∧q0h e.c∧((e.q05 x).1.getD (p:Int).toNat []).length≤(1000000:Nat))
abbrev qd3 (one:Int) (x:List Int):Prop :=
 ((0:Int)≤(IntKind.i64.wrap one).tmod (x.length:Int)∧(IntKind.i64.wrap one).tmod (x.length:Int)<(↑([]++x).length:Int))
set_option maxRecDepth 100000 in
theorem mistL_vc (e:Cod.Ear) (x:List Int) (one two:Int) (h:cMistL.pre ((e.lang,e.ws),e.c,x,one,two)) :
  True∧True∧bif !q2r (e.lang,e.ws) e.c [] (8:Int) then true=true else bif decide (8<(x.length:Int)) then true=true else (q0c (e.lang,e.ws)∧q0h e.c∧x.length≤(1000000:Nat))∧bif (e.q05 x).2 != (0:Int) then bif (e.q05 x).2==(1:Int) then bif (↑(e.q05 x).1.length:Int)==(0:Int) then (q0c (e.lang,e.ws)∧x.length≤(1000000:Nat))∧bif !Cod.q0p e.lang e.ws x then true=true else q0h e.c∧(!Snd.q0o e.c)=true else false=true else false=true else bif decide ((x.length:Int)<3) then false=true else (∃ (p':Nat),p'≤(e.q05 x).1.length∧((0:Int)=(p':Int)∧e.c=e.c∧x=x∧one=one∧two=two∧True∧true=true∧(e.q05 x).1=(e.q05 x).1∧(e.q05 x).2=(e.q05 x).2∧True)∧(q4a e)∧True∧True∧True∧True∧True∧True∧True∧True)∧∀ (p:Nat),p≤(e.q05 x).1.length→bif decide ((p:Int)<(↑(e.q05 x).1.length:Int)) then (q2f e p x)∧((e.q05 x).1.getD (p:Int).toNat []).length≤(1000000000000000:Nat)∧bif (e.q05 x).1.getD (p:Int).toNat []==x then false=true else bif decide (0<(p:Int)) then (zFit ((p:Int)-1))∧(0≤(p:Int)-1∧(p:Int)-1<(↑(e.q05 x).1.length:Int))∧(q2f e p x)∧((e.q05 x).1.getD ((p:Int)-1).toNat []).length≤(1000000000000000:Nat)∧bif !Cod.q5h ((e.q05 x).1.getD ((p:Int)-1).toNat []) ((e.q05 x).1.getD (p:Int).toNat []) then false=true else (q2f e p x)∧bif (↑((e.q05 x).1.getD (p:Int).toNat []).length:Int) != (x.length:Int) then (q2f e p x)∧(zFit ((x.length:Int)-1))∧bif (↑((e.q05 x).1.getD (p:Int).toNat []).length:Int) != (x.length:Int)-1 then false=true else (q2f e p x)∧bif decide ((↑((e.q05 x).1.getD (p:Int).toNat []).length:Int)<(x.length:Int)) then (zFit ((p:Int)+1))∧∃ (p':Nat),p'≤(e.q05 x).1.length∧(e.q05 x).1.length-p'<(e.q05 x).1.length-p∧(q58 e one p p' two x)∧(q4a e)∧True∧True∧True∧True∧True∧True∧True∧True else (q2f e p x)∧(qb4 e p x)∧bif (e.q05 ((e.q05 x).1.getD (p:Int).toNat [])).2 != (0:Int) then false=true else q5j (e.q05 ((e.q05 x).1.getD (p:Int).toNat [])).1∧bif !(e.q05 ((e.q05 x).1.getD (p:Int).toNat [])).1.any fun (y:List Int)=>y==x then false=true else (zFit ((p:Int)+1))∧∃ (p':Nat),p'≤(e.q05 x).1.length∧(e.q05 x).1.length-p'<(e.q05 x).1.length-p∧(q58 e one p p' two x)∧(q4a e)∧True∧True∧True∧True∧True∧True∧True∧True else (q2f e p x)∧bif decide ((↑((e.q05 x).1.getD (p:Int).toNat []).length:Int)<(x.length:Int)) then (zFit ((p:Int)+1))∧∃ (p':Nat),p'≤(e.q05 x).1.length∧(e.q05 x).1.length-p'<(e.q05 x).1.length-p∧(q58 e one p p' two x)∧(q4a e)∧True∧True∧True∧True∧True∧True∧True∧True else (q2f e p x)∧(qb4 e p x)∧bif (e.q05 ((e.q05 x).1.getD (p:Int).toNat [])).2 != (0:Int) then false=true else q5j (e.q05 ((e.q05 x).1.getD (p:Int).toNat [])).1∧bif !(e.q05 ((e.q05 x).1.getD (p:Int).toNat [])).1.any fun (y:List Int)=>y==x then false=true else (zFit ((p:Int)+1))∧∃ (p':Nat),p'≤(e.q05 x).1.length∧(e.q05 x).1.length-p'<(e.q05 x).1.length-p∧(q58 e one p p' two x)∧(q4a e)∧True∧True∧True∧True∧True∧True∧True∧True else (q2f e p x)∧bif (↑((e.q05 x).1.getD (p:Int).toNat []).length:Int) != (x.length:Int) then (q2f e p x)∧(zFit ((x.length:Int)-1))∧bif (↑((e.q05 x).1.getD (p:Int).toNat []).length:Int) != (x.length:Int)-1 then false=true else (q2f e p x)∧bif decide ((↑((e.q05 x).1.getD (p:Int).toNat []).length:Int)<(x.length:Int)) then (zFit ((p:Int)+1))∧∃ (p':Nat),p'≤(e.q05 x).1.length∧(e.q05 x).1.length-p'<(e.q05 x).1.length-p∧(q58 e one p p' two x)∧(q4a e)∧True∧True∧True∧True∧True∧True∧True∧True else (q2f e p x)∧(qb4 e p x)∧bif (e.q05 ((e.q05 x).1.getD (p:Int).toNat [])).2 != (0:Int) then false=true else q5j (e.q05 ((e.q05 x).1.getD (p:Int).toNat [])).1∧bif !(e.q05 ((e.q05 x).1.getD (p:Int).toNat [])).1.any fun (y:List Int)=>y==x then false=true else (zFit ((p:Int)+1))∧∃ (p':Nat),p'≤(e.q05 x).1.length∧(e.q05 x).1.length-p'<(e.q05 x).1.length-p∧(q58 e one p p' two x)∧(q4a e)∧True∧True∧True∧True∧True∧True∧True∧True else (q2f e p x)∧bif decide ((↑((e.q05 x).1.getD (p:Int).toNat []).length:Int)<(x.length:Int)) then (zFit ((p:Int)+1))∧∃ (p':Nat),p'≤(e.q05 x).1.length∧(e.q05 x).1.length-p'<(e.q05 x).1.length-p∧(q58 e one p p' two x)∧(q4a e)∧True∧True∧True∧True∧True∧True∧True∧True else (q2f e p x)∧(qb4 e p x)∧bif (e.q05 ((e.q05 x).1.getD (p:Int).toNat [])).2 != (0:Int) then false=true else q5j (e.q05 ((e.q05 x).1.getD (p:Int).toNat [])).1∧bif !(e.q05 ((e.q05 x).1.getD (p:Int).toNat [])).1.any fun (y:List Int)=>y==x then false=true else (zFit ((p:Int)+1))∧∃ (p':Nat),p'≤(e.q05 x).1.length∧(e.q05 x).1.length-p'<(e.q05 x).1.length-p∧(q58 e one p p' two x)∧(q4a e)∧True∧True∧True∧True∧True∧True∧True∧True else (x.length:Int)≠(0:Int)∧((0:Int)≤0∧(0:Int)≤(IntKind.i64.wrap one).tmod (x.length:Int)∧(IntKind.i64.wrap one).tmod (x.length:Int)≤(x.length:Int))∧(zFit ((IntKind.i64.wrap one).tmod (x.length:Int)+1))∧((0:Int)≤(IntKind.i64.wrap one).tmod (x.length:Int)+1∧(IntKind.i64.wrap one).tmod (x.length:Int)+1≤(x.length:Int)∧(x.length:Int)≤(x.length:Int))∧(([]:List Int).length+(List.drop (Int.toNat (0:Int)) (List.take ((IntKind.i64.wrap one).tmod (x.length:Int)).toNat x)).length)*(8:Nat)≤(140737488355328:Nat)∧(([]++List.drop (Int.toNat (0:Int)) (List.take ((IntKind.i64.wrap one).tmod (x.length:Int)).toNat x)).length+(List.drop ((IntKind.i64.wrap one).tmod (x.length:Int)+1).toNat (List.take (x.length:Int).toNat x)).length)*(8:Nat)≤(140737488355328:Nat)∧(([]:List Int).length+x.length)*(8:Nat)≤(140737488355328:Nat)∧((zFit ((IntKind.i64.wrap one).tmod (x.length:Int)+1))∧(x.length:Int)≠(0:Int)∧((0:Int)≤((IntKind.i64.wrap one).tmod (x.length:Int)+1).tmod (x.length:Int)∧((IntKind.i64.wrap one).tmod (x.length:Int)+1).tmod (x.length:Int)<(x.length:Int))∧(q62 one x)∧(qd3 one x)∧(zFit ((IntKind.i64.wrap one).tmod (x.length:Int)+1))∧(x.length:Int)≠(0:Int)∧bif ((IntKind.i64.wrap one).tmod (x.length:Int)).toNat.beq ((IntKind.i64.wrap one).tmod (x.length:Int)).toNat then ((0:Int)≤((IntKind.i64.wrap one).tmod (x.length:Int)+1).tmod (x.length:Int)∧((IntKind.i64.wrap one).tmod (x.length:Int)+1).tmod (x.length:Int)<(↑(([]++x).set ((IntKind.i64.wrap one).tmod (x.length:Int)).toNat (x.getD (((IntKind.i64.wrap one).tmod (x.length:Int)+1).tmod (x.length:Int)).toNat (0:Int))).length:Int))∧bif (((IntKind.i64.wrap one).tmod (x.length:Int)+1).tmod (x.length:Int)).toNat.beq (((IntKind.i64.wrap one).tmod (x.length:Int)+1).tmod (x.length:Int)).toNat then ∃ (p':List Int×List Int),(MistAt e x∧p'.1=lessAt x ((IntKind.i64.wrap one).tmod (x.length:Int)).toNat∧p'.2=turnAt x ((IntKind.i64.wrap one).tmod (x.length:Int)).toNat)∧(True∧True∧e.c=e.c∧x=x∧one=one∧two=two∧True∧true=true∧(e.q05 x).1=(e.q05 x).1∧(e.q05 x).2=(e.q05 x).2∧(IntKind.i64.wrap one).tmod (x.length:Int)=(IntKind.i64.wrap one).tmod (x.length:Int)∧True)∧(q4a e)∧([]++List.drop (Int.toNat (0:Int)) (List.take ((IntKind.i64.wrap one).tmod (x.length:Int)).toNat x)++List.drop ((IntKind.i64.wrap one).tmod (x.length:Int)+1).toNat (List.take (x.length:Int).toNat x)=p'.1∧(([]++x).set ((IntKind.i64.wrap one).tmod (x.length:Int)).toNat (x.getD (((IntKind.i64.wrap one).tmod (x.length:Int)+1).tmod (x.length:Int)).toNat (0:Int))).set (((IntKind.i64.wrap one).tmod (x.length:Int)+1).tmod (x.length:Int)).toNat (x.getD ((IntKind.i64.wrap one).tmod (x.length:Int)).toNat (0:Int))=p'.2∧True)∧True∧True∧True∧True∧True∧True∧True else False else False)∧∀ (p:List Int×List Int),MistAt e x∧p.1=lessAt x ((IntKind.i64.wrap one).tmod (x.length:Int)).toNat∧p.2=turnAt x ((IntKind.i64.wrap one).tmod (x.length:Int)).toNat→q5j (e.q05 x).1∧bif !(e.q05 x).1.any fun (y:List Int)=>y==p.1 then false=true else (zFit ((IntKind.i64.wrap one).tmod (x.length:Int)+1))∧bif decide ((IntKind.i64.wrap one).tmod (x.length:Int)+1<(x.length:Int)) then q5j (e.q05 x).1∧p.2.length≤(1000000000000000:Nat)∧bif ((e.q05 x).1.any fun (y:List Int)=>y==p.2)==(p.2==x) then false=true else (q62 one x)∧bif decide (x.getD ((IntKind.i64.wrap one).tmod (x.length:Int)).toNat (0:Int)<0) then false=true else (q62 one x)∧bif decide ((e.ws.length:Int)≤x.getD ((IntKind.i64.wrap one).tmod (x.length:Int)).toNat (0:Int)) then false=true else (q62 one x)∧((0:Int)≤x.getD ((IntKind.i64.wrap one).tmod (x.length:Int)).toNat (0:Int)∧x.getD ((IntKind.i64.wrap one).tmod (x.length:Int)).toNat 0<(e.ws.length:Int))∧(q0c (e.lang,e.ws)∧q0h e.c∧(e.ws.getD (x.getD ((IntKind.i64.wrap one).tmod (x.length:Int)).toNat (0:Int)).toNat []).length≤(1000000:Nat))∧bif (Snd.q0u e.lang e.ws e.c (e.ws.getD (x.getD ((IntKind.i64.wrap one).tmod (x.length:Int)).toNat (0:Int)).toNat [])).2 != (0:Int) then false=true else bif (↑(Snd.q0u e.lang e.ws e.c (e.ws.getD (x.getD ((IntKind.i64.wrap one).tmod (x.length:Int)).toNat (0:Int)).toNat [])).1.length:Int)==(0:Int) then false=true else (([]:List Int).length+x.length)*(8:Nat)≤(140737488355328:Nat)∧(↑(Snd.q0u e.lang e.ws e.c (e.ws.getD (x.getD ((IntKind.i64.wrap one).tmod (x.length:Int)).toNat (0:Int)).toNat [])).1.length:Int)≠(0:Int)∧(qh1 e one two x)∧(qd3 one x)∧bif ((IntKind.i64.wrap one).tmod (x.length:Int)).toNat.beq ((IntKind.i64.wrap one).tmod (x.length:Int)).toNat then q5j (e.q05 x).1∧(([]++x).set ((IntKind.i64.wrap one).tmod (x.length:Int)).toNat ((Snd.q0u e.lang e.ws e.c (e.ws.getD (x.getD ((IntKind.i64.wrap one).tmod (x.length:Int)).toNat (0:Int)).toNat [])).1.getD ((IntKind.i64.wrap two).tmod (↑(Snd.q0u e.lang e.ws e.c (e.ws.getD (x.getD ((IntKind.i64.wrap one).tmod (x.length:Int)).toNat (0:Int)).toNat [])).1.length:Int)).toNat (0:Int))).length≤(1000000000000000:Nat)∧(((e.q05 x).1.any fun (y:List Int)=>y==([]++x).set ((IntKind.i64.wrap one).tmod (x.length:Int)).toNat ((Snd.q0u e.lang e.ws e.c (e.ws.getD (x.getD ((IntKind.i64.wrap one).tmod (x.length:Int)).toNat (0:Int)).toNat [])).1.getD ((IntKind.i64.wrap two).tmod (↑(Snd.q0u e.lang e.ws e.c (e.ws.getD (x.getD ((IntKind.i64.wrap one).tmod (x.length:Int)).toNat (0:Int)).toNat [])).1.length:Int)).toNat (0:Int)))==!([]++x).set ((IntKind.i64.wrap one).tmod (x.length:Int)).toNat ((Snd.q0u e.lang e.ws e.c (e.ws.getD (x.getD ((IntKind.i64.wrap one).tmod (x.length:Int)).toNat (0:Int)).toNat [])).1.getD ((IntKind.i64.wrap two).tmod (↑(Snd.q0u e.lang e.ws e.c (e.ws.getD (x.getD ((IntKind.i64.wrap one).tmod (x.length:Int)).toNat (0:Int)).toNat [])).1.length:Int)).toNat (0:Int))==x)=true else False else (q62 one x)∧bif decide (x.getD ((IntKind.i64.wrap one).tmod (x.length:Int)).toNat (0:Int)<0) then false=true else (q62 one x)∧bif decide ((e.ws.length:Int)≤x.getD ((IntKind.i64.wrap one).tmod (x.length:Int)).toNat (0:Int)) then false=true else (q62 one x)∧((0:Int)≤x.getD ((IntKind.i64.wrap one).tmod (x.length:Int)).toNat (0:Int)∧x.getD ((IntKind.i64.wrap one).tmod (x.length:Int)).toNat 0<(e.ws.length:Int))∧(q0c (e.lang,e.ws)∧q0h e.c∧(e.ws.getD (x.getD ((IntKind.i64.wrap one).tmod (x.length:Int)).toNat (0:Int)).toNat []).length≤(1000000:Nat))∧bif (Snd.q0u e.lang e.ws e.c (e.ws.getD (x.getD ((IntKind.i64.wrap one).tmod (x.length:Int)).toNat (0:Int)).toNat [])).2 != (0:Int) then false=true else bif (↑(Snd.q0u e.lang e.ws e.c (e.ws.getD (x.getD ((IntKind.i64.wrap one).tmod (x.length:Int)).toNat (0:Int)).toNat [])).1.length:Int)==(0:Int) then false=true else (([]:List Int).length+x.length)*(8:Nat)≤(140737488355328:Nat)∧(↑(Snd.q0u e.lang e.ws e.c (e.ws.getD (x.getD ((IntKind.i64.wrap one).tmod (x.length:Int)).toNat (0:Int)).toNat [])).1.length:Int)≠(0:Int)∧(qh1 e one two x)∧(qd3 one x)∧bif ((IntKind.i64.wrap one).tmod (x.length:Int)).toNat.beq ((IntKind.i64.wrap one).tmod (x.length:Int)).toNat then q5j (e.q05 x).1∧(([]++x).set ((IntKind.i64.wrap one).tmod (x.length:Int)).toNat ((Snd.q0u e.lang e.ws e.c (e.ws.getD (x.getD ((IntKind.i64.wrap one).tmod (x.length:Int)).toNat (0:Int)).toNat [])).1.getD ((IntKind.i64.wrap two).tmod (↑(Snd.q0u e.lang e.ws e.c (e.ws.getD (x.getD ((IntKind.i64.wrap one).tmod (x.length:Int)).toNat (0:Int)).toNat [])).1.length:Int)).toNat (0:Int))).length≤(1000000000000000:Nat)∧(((e.q05 x).1.any fun (y:List Int)=>y==([]++x).set ((IntKind.i64.wrap one).tmod (x.length:Int)).toNat ((Snd.q0u e.lang e.ws e.c (e.ws.getD (x.getD ((IntKind.i64.wrap one).tmod (x.length:Int)).toNat (0:Int)).toNat [])).1.getD ((IntKind.i64.wrap two).tmod (↑(Snd.q0u e.lang e.ws e.c (e.ws.getD (x.getD ((IntKind.i64.wrap one).tmod (x.length:Int)).toNat (0:Int)).toNat [])).1.length:Int)).toNat (0:Int)))==!([]++x).set ((IntKind.i64.wrap one).tmod (x.length:Int)).toNat ((Snd.q0u e.lang e.ws e.c (e.ws.getD (x.getD ((IntKind.i64.wrap one).tmod (x.length:Int)).toNat (0:Int)).toNat [])).1.getD ((IntKind.i64.wrap two).tmod (↑(Snd.q0u e.lang e.ws e.c (e.ws.getD (x.getD ((IntKind.i64.wrap one).tmod (x.length:Int)).toNat (0:Int)).toNat [])).1.length:Int)).toNat (0:Int))==x)=true else False:=by
 delta q58 q2f q62 qh1 q4a qb4 qd3 zFit
 obtain ⟨_,_,_,h1,h2⟩:=h
 simp only [true_and,and_true,eq_self,and_self,Nat.beq_refl,cond_true]
 refine bifP (fun _=>trivial) fun hf=>bifP (fun _=>trivial) fun hx=>?_
 have hf:=q1m hf
 obtain ⟨hW,hC,_,_,hw⟩:=q61 hf
 have hw:e.ws.length≤8:=hw
 have hx:x.length≤8:=by have:=of_decide_eq_false hx; omega
 refine ⟨⟨hW,hC,by omega⟩,?_⟩
 cases hok:(e.ok&&Cod.q0p e.lang e.ws x)
 ·have hm:e.q05 x=([],1):=by unfold Cod.Ear.q05; rw [hok]; rfl
  rw [hm]
  refine ⟨⟨hW,by omega⟩,?_⟩
  unfold Cod.Ear.ok at hok
  cases hc:Cod.q0p e.lang e.ws x
  ·trivial
  ·have hv:=(Cod.q79 hc).1
   rw [hc,hv] at hok
   exact ⟨hC,by simpa using hok⟩
 rw [Bool.and_eq_true] at hok
 obtain ⟨hok,hcd⟩:=hok
 have hm:e.q05 x=(Cod.q1s (e.miss x),0):=qk0 hok hcd
 obtain ⟨hv,⟨hx3,hx5⟩,hin⟩:=Cod.q79 hcd
 have hlong:=q9h (e:=e) hw hx
 have hmem:∀ {p:Nat},p<(Cod.q1s (e.miss x)).length→(Cod.q1s (e.miss x)).getD p []∈e.miss x:=fun hp=>Cod.q3f.1 (Snd.q11 _ [] _ hp)
 unfold MistAt
 rw [hm]
 refine bifP (fun h=>by cases h) fun _=>bifP (fun h=>absurd (of_decide_eq_true h) (by omega)) fun _=>?_
 dsimp only
 refine ⟨⟨0,Nat.zero_le _,rfl⟩,?_⟩
 intro p hp
 refine bifP (fun hb=>?_) fun hb=>?_
 ·have hb:=of_decide_eq_true hb
  have hpl:p<(Cod.q1s (e.miss x)).length:=by omega
  have hll:=hlong.1
  have hz:=hmem hpl
  have hzl:=Cod.qeq hz
  have hup:0<p→Cod.q5h ((Cod.q1s (e.miss x)).getD (p-1) []) ((Cod.q1s (e.miss x)).getD p [])=true:=fun h0=>by
   have:=List.pairwise_iff_getElem.1 (Cod.qk8 (e.miss x)) (p-1) p (by omega) hpl (by omega)
   unfold Cod.q5h
   rw [List.getD_eq_getElem?_getD,List.getElem?_eq_getElem (by omega),List.getD_eq_getElem?_getD,List.getElem?_eq_getElem hpl]
   exact decide_eq_true this
  have hl1:((Cod.q1s (e.miss x)).getD (p-1) []).length≤1000000000000000:=by
   have:=hlong.2 _ (Snd.q11 (Cod.q1s (e.miss x)) [] (p-1) (by omega))
   exact this
  have hne:=Cod.qi6 hz
  simp only [Int.toNat_natCast,show ((p:Int)-1).toNat=p-1 by omega]
  obtain ⟨z,ez⟩:∃ z,z=(Cod.q1s (e.miss x)).getD p []:=⟨_,rfl⟩
  rw [← ez] at hz hzl hup hne
  simp only [← ez]
  have fin:∃ p':Nat,p'≤(Cod.q1s (e.miss x)).length∧(Cod.q1s (e.miss x)).length-p'<(Cod.q1s (e.miss x)).length-p∧(p:Int)+1=(p':Int):=⟨p+1,by omega,by omega,by omega⟩
  have back:¬ ((z.length:Int)<(x.length:Int))→(e.q05 z).2=0∧q5j (e.q05 z).1∧((e.q05 z).1.any fun y=>y==x)=true:=fun hlt=>by
   obtain ⟨b1,b2⟩:=Cod.miss_back hok hcd hz (by omega)
   rw [qk0 hok b1]
   exact ⟨rfl,q9h hw (by omega),List.any_eq_true.2 ⟨x,Cod.q3f.2 b2,by simp⟩⟩
  refine ⟨⟨by omega,by omega⟩,by omega,bifP (fun h=>absurd (beq_iff_eq.1 h) hne) fun _=>?_⟩
  refine bif_tail4 (fun h0=>by have h0:=of_decide_eq_true h0; exact ⟨⟨by omega,by omega⟩,⟨by omega,by omega⟩,⟨by omega,by omega⟩,hl1,by rw [hup (by omega)]; rfl⟩) ⟨⟨by omega,by omega⟩,?_⟩
  refine bif_tail3 (fun h0=>⟨⟨by omega,by omega⟩,⟨by omega,by omega⟩,?_⟩) ⟨⟨by omega,by omega⟩,?_⟩
  ·have:(z.length:Int)≠(x.length:Int):=by simpa using h0
   rw [bne_eq_false_iff_eq]
   omega
  ·refine bifP (fun _=>⟨⟨by omega,by omega⟩,fin⟩) fun hlt=>?_
   obtain ⟨b1,b2,b3⟩:=back (of_decide_eq_false hlt)
   rw [b1,b3]
   exact ⟨⟨by omega,by omega⟩,⟨hW,hC,by omega⟩,b2,⟨by omega,by omega⟩,fin⟩
 obtain ⟨k,ek,hk⟩:=idx41 h1 (n:=x.length) (by omega)
 have e2:((k:Int)+1).tmod (x.length:Int)=(((k+1) % x.length:Nat):Int):=by
  rw [show (k:Int)+1=((k+1:Nat):Int) by omega]
  exact (Int.ofNat_tmod _ _).symm
 have e3:((k:Int)+1).toNat=k+1:=by omega
 have hmod:(k+1) % x.length<x.length:=Nat.mod_lt _ (by omega)
 dsimp only at ek
 simp only [ek,e2,e3,Int.toNat_natCast,List.nil_append,List.drop_zero,List.take_length,Int.toNat_zero]
 have hless:lessAt x k=x.eraseIdx k:=(List.eraseIdx_eq_take_drop_succ x k).symm
 have hll:=hlong.1
 refine ⟨by omega,⟨by omega,by omega,by omega⟩,⟨by omega,by omega⟩,⟨by omega,by omega,by omega⟩,?_,?_,?_,?_,?_⟩
 ·simp only [List.length_take,List.length_nil]; omega
 ·simp only [List.length_take,List.length_drop]; omega
 ·simp only [List.length_nil]; omega
 ·refine ⟨⟨by omega,by omega⟩,by omega,⟨by omega,by omega⟩,⟨by omega,by omega⟩,⟨by omega,by omega⟩,⟨by omega,by omega⟩,by omega,⟨by omega,by rw [List.length_set]; omega⟩,(_,_),⟨⟨hf,hx,trivial⟩,rfl,rfl⟩,rfl,rfl⟩
 rintro ⟨l,t⟩ ⟨_,hl,ht⟩
 dsimp only at hl ht ⊢
 have hlm:(Cod.q1s (e.miss x)).any (fun y=>y==l)=true:=List.any_eq_true.2 ⟨_,Cod.q3f.2 (Cod.qkv (e:=e) hk),by rw [hl,hless]; simp⟩
 have htl:t.length=x.length:=by rw [ht]; unfold turnAt; rw [List.length_set,List.length_set]
 have hnot:(Cod.q1s (e.miss x)).any (fun y=>y==x)=false:=any_eq_false fun h=>Cod.qi6 (Cod.q3f.1 h) rfl
 have hturn:k+1<x.length→((Cod.q1s (e.miss x)).any (fun y=>y==t)==(t==x))=false:=fun hk1=>by
  have et:t=(x.set k (x.getD (k+1) 0)).set (k+1) (x.getD k 0):=by rw [ht]; unfold turnAt; rw [Nat.mod_eq_of_lt hk1]
  by_cases he:x.getD k 0=x.getD (k+1) 0
  ·rw [Cod.swap_same hk1 he] at et
   rw [et,hnot,beq_self_eq_true]; rfl
  ·have hm:=Cod.mem_swap (e:=e) hk1 he
   rw [← et] at hm
   rw [beq_eq_false_iff_ne.2 (Cod.qi6 hm),List.any_eq_true.2 ⟨t,Cod.q3f.2 hm,by simp⟩]; rfl
 rw [hlm]
 refine ⟨hlong,⟨by omega,by omega⟩,?_⟩
 obtain ⟨w0,w1⟩:=Cod.in_getD hin hk
 have nv:=Cod.near_val hok w0 w1
 have hself:=Cod.near_self hok w0 w1
 have hnear:e.near (x.getD k 0)=Snd.q7e e.ws e.c (e.ws.getD (x.getD k 0).toNat []) e.ws.length:=by unfold Cod.Ear.near; rw [nv]
 have hpos:0<(e.near (x.getD k 0)).length:=List.length_pos_of_mem hself
 obtain ⟨q,eq,hq⟩:=idx41 h2 (n:=(e.near (x.getD k 0)).length) hpos
 dsimp only at eq
 rw [nv]
 simp only [← hnear,eq,Int.toNat_natCast]
 have hqm:=Snd.q11 (e.near (x.getD k 0)) 0 q hq
 have hnl:=q6b e (x.getD k 0)
 have hword:(e.ws.getD (x.getD k 0).toNat []).length≤1000000:=hW.2.2 _ (Snd.q11 e.ws [] _ (by omega))
 have hfin:((Cod.q1s (e.miss x)).any fun y=>y==x.set k ((e.near (x.getD k 0)).getD q 0))=!(x.set k ((e.near (x.getD k 0)).getD q 0)==x):=by
  by_cases he:(e.near (x.getD k 0)).getD q 0=x.getD k 0
  ·rw [he,Cod.qa0 hk,hnot,beq_self_eq_true]; rfl
  ·have hm:=Cod.heard_miss (e:=e) hk hqm he
   rw [beq_eq_false_iff_ne.2 (Cod.qi6 hm),List.any_eq_true.2 ⟨_,Cod.q3f.2 hm,by simp⟩]; rfl
 refine bif_tail3 (fun h=>⟨hlong,by omega,hturn (by have:=of_decide_eq_true h; omega)⟩) ?_
 refine ⟨⟨by omega,by omega⟩,bifP (fun h=>absurd (of_decide_eq_true h) (by omega)) fun _=>⟨⟨by omega,by omega⟩,bifP (fun h=>absurd (of_decide_eq_true h) (by omega)) fun _=>⟨⟨by omega,by omega⟩,⟨w0,w1⟩,⟨hW,hC,hword⟩,bifP (fun h=>absurd h (by decide)) fun _=>bifP (fun h=>absurd (beq_iff_eq.1 h) (by omega)) fun _=>⟨by simp only [List.length_nil]; omega,by omega,⟨by omega,by omega⟩,⟨by omega,by omega⟩,hlong,by rw [List.length_set]; omega,by rw [hfin]; exact beq_self_eq_true _⟩⟩⟩⟩
theorem qm9:∀ c∈consMistL,c.Holds Tryz.prog:=all_cons q5s (all_cons q4q (all_cons q9f (all_cons q85 (all_cons qkr (all_cons qhb (all_cons q4s (all_cons q8z (all_cons qbj all_nil))))))))
set_option maxRecDepth 100000 in
theorem mistL_holds:cMistL.Holds Tryz.prog:=by
 refine q1n (cons:=consMistL) Tryz.func8 (by kernel_rfl) (by kernel_rfl) mixed (by kernel_rfl) qm9 (fun p=>anMistL ⟨p.1.1,p.1.2,p.2.1⟩ p.2.2.1 (Cod.Ear.q05 ⟨p.1.1,p.1.2,p.2.1⟩ p.2.2.1).1) fun p hp=>?_
 obtain ⟨⟨lang,ws⟩,c,x,one,two⟩:=p
 refine cast ?_ (mistL_vc ⟨lang,ws,c⟩ x one two hp)
 kernel_rfl
end Go.Proofs.YtfecgebhoondjaaGreatDoor

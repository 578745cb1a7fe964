/-
  Several texts in one: CoG, CoH, CoP, CoQ, CoR, CoU, HeE, HeF.
-/
import Derived.Test.YtfecgebhoondjaaGreatDoorPN
import Derived.Test.YtfecgebhoondjaaGreatDoorPO
import Derived.Lib.Join
import Derived.Test.YtfecgebhoondjaaGreatDoorPA
set_option linter.unusedVariables false
namespace Go.Proofs.YtfecgebhoondjaaGreatDoor
open Go.RowKit
open R
abbrev q2m (e:Cod.Ear) (p_1:Nat×q08×q03×q0m×q05×Cod.Giv):Prop :=
 ((True∧True)∧(p_1.2.2.2.2.2.2.1=p_1.2.2.2.2.2.2.1∧True)∧(True∧True)∧(p_1.2.2.2.2.2.1=p_1.2.2.2.2.2.1∧p_1.2.2.2.2.2.2.1=p_1.2.2.2.2.2.2.1∧p_1.2.2.2.2.2.2.2.1=p_1.2.2.2.2.2.2.2.1∧p_1.2.2.2.2.2.2.2.2.1=p_1.2.2.2.2.2.2.2.2.1∧p_1.2.2.2.2.2.2.2.2.2=p_1.2.2.2.2.2.2.2.2.2∧True)∧(false=false∧True)∧(e.lang=e.lang∧e.ws=e.ws∧True∧e.c=e.c∧True)∧(True∧True∧True∧True)∧(e.lang=e.lang∧e.ws=e.ws∧True)∧(p_1.2.2.2.2.2.1=p_1.2.2.2.2.2.1∧p_1.2.2.2.2.2.2.1=p_1.2.2.2.2.2.2.1∧p_1.2.2.2.2.2.2.2.1=p_1.2.2.2.2.2.2.2.1∧p_1.2.2.2.2.2.2.2.2.1=p_1.2.2.2.2.2.2.2.2.1∧p_1.2.2.2.2.2.2.2.2.2=p_1.2.2.2.2.2.2.2.2.2∧True)∧True)
abbrev q2n (e:Cod.Ear) (p_2:Nat×q08×q03×q0m×q05×Cod.Giv):Prop :=
 ((True∧True)∧(p_2.2.2.2.2.2.2.1=p_2.2.2.2.2.2.2.1∧True)∧(True∧True)∧(p_2.2.2.2.2.2.1=p_2.2.2.2.2.2.1∧p_2.2.2.2.2.2.2.1=p_2.2.2.2.2.2.2.1∧p_2.2.2.2.2.2.2.2.1=p_2.2.2.2.2.2.2.2.1∧p_2.2.2.2.2.2.2.2.2.1=p_2.2.2.2.2.2.2.2.2.1∧p_2.2.2.2.2.2.2.2.2.2=p_2.2.2.2.2.2.2.2.2.2∧True)∧(True∧True)∧(e.lang=e.lang∧e.ws=e.ws∧True∧e.c=e.c∧True)∧(True∧True∧True∧True)∧(e.lang=e.lang∧e.ws=e.ws∧True)∧(p_2.2.2.2.2.2.1=p_2.2.2.2.2.2.1∧p_2.2.2.2.2.2.2.1=p_2.2.2.2.2.2.2.1∧p_2.2.2.2.2.2.2.2.1=p_2.2.2.2.2.2.2.2.1∧p_2.2.2.2.2.2.2.2.2.1=p_2.2.2.2.2.2.2.2.2.1∧p_2.2.2.2.2.2.2.2.2.2=p_2.2.2.2.2.2.2.2.2.2∧True)∧True)
abbrev qci (e:Cod.Ear) (p':Nat×q03×q05) (p_2:Nat×q08×q03×q0m×q05×Cod.Giv) (p_3:Nat×q08×q03×q05) (p_4:Nat×q03×q05):Prop :=
 ((p_4.1:Int)+1=(p'.1:Int)∧True∧True∧True∧True∧(p_3.1:Int)=(p_3.1:Int)∧p_2.2.2.2.2.2.2.1.getD (p_3.1:Int).toNat (0:Int)=p_2.2.2.2.2.2.2.1.getD (p_3.1:Int).toNat (0:Int)∧p_2.2.2.2.2.2.2.1=p_2.2.2.2.2.2.2.1∧(p_2.2.2.2.2.2.2.1.length:Int)=(p_2.2.2.2.2.2.2.1.length:Int)∧(p_3.1:Int)=(p_3.1:Int)∧e.near (p_2.2.2.2.2.2.2.1.getD (p_3.1:Int).toNat (0:Int))=e.near (p_2.2.2.2.2.2.2.1.getD (p_3.1:Int).toNat (0:Int))∧(↑(e.near (p_2.2.2.2.2.2.2.1.getD (p_3.1:Int).toNat (0:Int))).length:Int)=(↑(e.near (p_2.2.2.2.2.2.2.1.getD (p_3.1:Int).toNat (0:Int))).length:Int)∧True)
abbrev q3a (book:q0f) (p_2:Nat×q08×q03×q0m×q05×Cod.Giv):Prop :=
 (True∧True∧True∧True∧book=book∧(↑(List.length book):Int)=(↑(List.length book):Int)∧(p_2.1:Int)=(p_2.1:Int)∧True∧True)
abbrev q3r (e:Cod.Ear):Prop :=
 ((e.lang=e.lang∧e.ws=e.ws∧True∧e.c=e.c∧True)∧(e.lang=e.lang∧e.ws=e.ws∧True)∧(e.lang=e.lang∧e.ws=e.ws∧True)∧True)
abbrev q6c (book:q0f) (p_1:Nat×q08×q03×q0m×q05×Cod.Giv):Prop :=
 (True∧True∧True∧True∧True∧book=book∧(↑(List.length book):Int)=(↑(List.length book):Int)∧(p_1.1:Int)=(p_1.1:Int)∧false=false∧True)
abbrev zCoG0_6 (book:q0f) (e:Cod.Ear) (p:Nat×q08×q03×q05) (p_1:Nat×q08×q03×q0m×q05×Cod.Giv) (p_3:Nat×q03×q05):Prop :=
 (True∧True∧True∧false=false∧True∧True∧True∧True∧(p.1:Int)=(p.1:Int)∧p_1.2.2.2.2.2.2.1.getD (p.1:Int).toNat (0:Int)=p_1.2.2.2.2.2.2.1.getD (p.1:Int).toNat (0:Int)∧p_1.2.2.2.2.2.2.1=p_1.2.2.2.2.2.2.1∧(p_1.2.2.2.2.2.2.1.length:Int)=(p_1.2.2.2.2.2.2.1.length:Int)∧(p.1:Int)=(p.1:Int)∧e.near (p_1.2.2.2.2.2.2.1.getD (p.1:Int).toNat (0:Int))=e.near (p_1.2.2.2.2.2.2.1.getD (p.1:Int).toNat (0:Int))∧(↑(e.near (p_1.2.2.2.2.2.2.1.getD (p.1:Int).toNat (0:Int))).length:Int)=(↑(e.near (p_1.2.2.2.2.2.2.1.getD (p.1:Int).toNat (0:Int))).length:Int)∧(p_3.1:Int)=(p_3.1:Int)∧true=true∧True∧True∧True∧True∧True∧book=book∧(↑(List.length book):Int)=(↑(List.length book):Int)∧(p_1.1:Int)=(p_1.1:Int)∧false=false∧True)
abbrev zCoG0_7 (book:q0f) (e:Cod.Ear) (p:Nat×q08×q03×q05) (p_1:Nat×q08×q03×q0m×q05×Cod.Giv) (p_3:Nat×q03×q05):Prop :=
 (True∧True∧True∧false=false∧True∧True∧True∧True∧(p.1:Int)=(p.1:Int)∧p_1.2.2.2.2.2.2.1.getD (p.1:Int).toNat (0:Int)=p_1.2.2.2.2.2.2.1.getD (p.1:Int).toNat (0:Int)∧p_1.2.2.2.2.2.2.1=p_1.2.2.2.2.2.2.1∧(p_1.2.2.2.2.2.2.1.length:Int)=(p_1.2.2.2.2.2.2.1.length:Int)∧(p.1:Int)=(p.1:Int)∧e.near (p_1.2.2.2.2.2.2.1.getD (p.1:Int).toNat (0:Int))=e.near (p_1.2.2.2.2.2.2.1.getD (p.1:Int).toNat (0:Int))∧(↑(e.near (p_1.2.2.2.2.2.2.1.getD (p.1:Int).toNat (0:Int))).length:Int)=(↑(e.near (p_1.2.2.2.2.2.2.1.getD (p.1:Int).toNat (0:Int))).length:Int)∧(p_3.1:Int)=(p_3.1:Int)∧True∧True∧True∧True∧True∧True∧book=book∧(↑(List.length book):Int)=(↑(List.length book):Int)∧(p_1.1:Int)=(p_1.1:Int)∧false=false∧True)
abbrev qaj (p':Nat×q08×q03×q05) (p_2:Nat×q08×q03×q0m×q05×Cod.Giv) (p_3:Nat×q08×q03×q05):Prop :=
 ((p_3.1:Int)+1=(p'.1:Int)∧True∧True∧True∧True∧p_2.2.2.2.2.2.2.1=p_2.2.2.2.2.2.2.1∧(p_2.2.2.2.2.2.2.1.length:Int)=(p_2.2.2.2.2.2.2.1.length:Int)∧True)
abbrev qfp (p_2:Nat×q08×q03×q0m×q05×Cod.Giv) (p_3:Nat×q08×q03×q05):Prop :=
 (True∧True∧True∧True∧(p_3.1:Int)=(p_3.1:Int)∧p_2.2.2.2.2.2.2.1.getD (p_3.1:Int).toNat (0:Int)=p_2.2.2.2.2.2.2.1.getD (p_3.1:Int).toNat (0:Int)∧p_2.2.2.2.2.2.2.1=p_2.2.2.2.2.2.2.1∧(p_2.2.2.2.2.2.2.1.length:Int)=(p_2.2.2.2.2.2.2.1.length:Int)∧(p_3.1:Int)=(p_3.1:Int)∧True)
abbrev q6x (e:Cod.Ear) (p':Nat×q08×q03×q05) (p_2:Nat×q08×q03×q0m×q05×Cod.Giv):Prop :=
 (p'.1≤p_2.2.2.2.2.2.2.1.length∧q1a e p'.2.1∧q1l [] p_2.2.2.2.2.1 p_2.2.2.2.2.2 (e.q18 p_2.2.2.2.2.2.2.1 p'.1 (0:Nat)) p'.2.2.1 p'.2.2.2)
abbrev q8p (e:Cod.Ear) (p':Nat×q03×q05) (p_2:Nat×q08×q03×q0m×q05×Cod.Giv) (p_3:Nat×q08×q03×q05):Prop :=
 (p'.1≤(e.near (p_2.2.2.2.2.2.2.1.getD (p_3.1:Int).toNat (0:Int))).length∧q1l p_3.2.2.1 p_3.2.2.2 p_2.2.2.2.2.2 (q3b e p_2.2.2.2.2.2.2.1 (p_3.1:Int).toNat p'.1) p'.2.1 p'.2.2)
abbrev qhr (e:Cod.Ear) (p:Nat×q08×q03×q05) (p':Nat×q03×q05) (p_1:Nat×q08×q03×q0m×q05×Cod.Giv) (p_3:Nat×q03×q05):Prop :=
 ((p_3.1:Int)+1=(p'.1:Int)∧True∧True∧True∧True∧(p.1:Int)=(p.1:Int)∧p_1.2.2.2.2.2.2.1.getD (p.1:Int).toNat (0:Int)=p_1.2.2.2.2.2.2.1.getD (p.1:Int).toNat (0:Int)∧p_1.2.2.2.2.2.2.1=p_1.2.2.2.2.2.2.1∧(p_1.2.2.2.2.2.2.1.length:Int)=(p_1.2.2.2.2.2.2.1.length:Int)∧(p.1:Int)=(p.1:Int)∧e.near (p_1.2.2.2.2.2.2.1.getD (p.1:Int).toNat (0:Int))=e.near (p_1.2.2.2.2.2.2.1.getD (p.1:Int).toNat (0:Int))∧(↑(e.near (p_1.2.2.2.2.2.2.1.getD (p.1:Int).toNat (0:Int))).length:Int)=(↑(e.near (p_1.2.2.2.2.2.2.1.getD (p.1:Int).toNat (0:Int))).length:Int)∧True)
abbrev qht (book:q0f) (p:Nat×q08×q03×q05) (p_1:Nat×q08×q03×q0m×q05×Cod.Giv):Prop :=
 (True∧True∧True∧false=false∧True∧True∧True∧True∧(p.1:Int)=(p.1:Int)∧p_1.2.2.2.2.2.2.1.getD (p.1:Int).toNat (0:Int)=p_1.2.2.2.2.2.2.1.getD (p.1:Int).toNat (0:Int)∧p_1.2.2.2.2.2.2.1=p_1.2.2.2.2.2.2.1∧(p_1.2.2.2.2.2.2.1.length:Int)=(p_1.2.2.2.2.2.2.1.length:Int)∧(p.1:Int)=(p.1:Int)∧True∧True∧True∧True∧True∧True∧True∧True∧True∧book=book∧(↑(List.length book):Int)=(↑(List.length book):Int)∧(p_1.1:Int)=(p_1.1:Int)∧false=false∧True)
abbrev qhl (p:Nat×q08×q03×q05) (p':Nat) (p_1:Nat×q08×q03×q0m×q05×Cod.Giv):Prop :=
 (p'≤((getK (Cod.key ((p_1.2.2.2.2.2.2.1.set (p.1:Int).toNat (p_1.2.2.2.2.2.2.1.getD ((p.1:Int)-1).toNat (0:Int))).set ((p.1:Int)-1).toNat (p_1.2.2.2.2.2.2.1.getD (p.1:Int).toNat (0:Int)))) p_1.2.2.2.2.1).getD []).length∧((List.take p' ((getK (Cod.key ((p_1.2.2.2.2.2.2.1.set (p.1:Int).toNat (p_1.2.2.2.2.2.2.1.getD ((p.1:Int)-1).toNat (0:Int))).set ((p.1:Int)-1).toNat (p_1.2.2.2.2.2.2.1.getD (p.1:Int).toNat (0:Int)))) p_1.2.2.2.2.1).getD [])).any fun (o:List UInt8×List Int×Bool×Int×Int)=>Cod.q1s o p_1.2.2.2.2.2)=false)
abbrev qhu (book:q0f) (p:Nat×q08×q03×q05) (p_1:Nat×q08×q03×q0m×q05×Cod.Giv):Prop :=
 (True∧True∧True∧True∧(p.1:Int)=(p.1:Int)∧p_1.2.2.2.2.2.2.1.getD (p.1:Int).toNat (0:Int)=p_1.2.2.2.2.2.2.1.getD (p.1:Int).toNat (0:Int)∧p_1.2.2.2.2.2.2.1=p_1.2.2.2.2.2.2.1∧(p_1.2.2.2.2.2.2.1.length:Int)=(p_1.2.2.2.2.2.2.1.length:Int)∧(p.1:Int)=(p.1:Int)∧True∧True∧True∧True∧True∧True∧True∧True∧True∧book=book∧(↑(List.length book):Int)=(↑(List.length book):Int)∧(p_1.1:Int)=(p_1.1:Int)∧false=false∧True)
abbrev qi0 (book:q0f) (p_2:Nat×q08×q03×q0m×q05×Cod.Giv) (p_3:Nat×q08×q03×q05):Prop :=
 (True∧True∧True∧True∧(p_3.1:Int)=(p_3.1:Int)∧p_2.2.2.2.2.2.2.1.getD (p_3.1:Int).toNat (0:Int)=p_2.2.2.2.2.2.2.1.getD (p_3.1:Int).toNat (0:Int)∧p_2.2.2.2.2.2.2.1=p_2.2.2.2.2.2.2.1∧(p_2.2.2.2.2.2.2.1.length:Int)=(p_2.2.2.2.2.2.2.1.length:Int)∧(p_3.1:Int)=(p_3.1:Int)∧True∧True∧True∧True∧True∧True∧True∧True∧book=book∧(↑(List.length book):Int)=(↑(List.length book):Int)∧(p_2.1:Int)=(p_2.1:Int)∧True∧True)
abbrev q3v (p_1:Nat×q08×q03×q0m×q05×Cod.Giv) (p_2:q08):Prop :=
 (p_2=p_2∧p_1.2.2.1=p_1.2.2.1∧p_1.2.2.2.1=p_1.2.2.2.1∧True)
abbrev qdn (p:q08) (p':Nat×q08×q03×q05) (p_2:Nat×q08×q03×q0m×q05×Cod.Giv) (p_5:q03×q05):Prop :=
 (p_5.1=p'.2.2.1∧p=p'.2.1∧putK (Cod.key p_2.2.2.2.2.2.2.1) true p_2.2.2.1=putK (Cod.key p_2.2.2.2.2.2.2.1) true p_2.2.2.1∧Mp.put (fun (x x_1:List UInt8)=>x==x_1) p_2.2.2.2.2.2.1 true p_2.2.2.2.1=Mp.put (fun (x x_1:List UInt8)=>x==x_1) p_2.2.2.2.2.2.1 true p_2.2.2.2.1∧True)
abbrev q6u (book:q0f) (e:Cod.Ear):Prop :=
 (True∧Snd.q0x e.c=(Snd.q0n e.lang e.ws&&Snd.q0x e.c)∧book=book∧True∧True)
abbrev q6s (book:q0f) (e:Cod.Ear):Prop :=
 (True∧false=(Snd.q0n e.lang e.ws&&Snd.q0x e.c)∧book=book∧True∧True)
abbrev qhq (p:q08) (p':Nat×q08×q03×q05) (p_2:Nat×q08×q03×q0m×q05×Cod.Giv) (p_3:Nat×q08×q03×q05) (p_5:q03×q05):Prop :=
 (putK (Cod.key ((p_2.2.2.2.2.2.2.1.set (p_3.1:Int).toNat (p_2.2.2.2.2.2.2.1.getD ((p_3.1:Int)-1).toNat (0:Int))).set ((p_3.1:Int)-1).toNat (p_2.2.2.2.2.2.2.1.getD (p_3.1:Int).toNat (0:Int)))) true p_5.1=p'.2.2.1∧p=p'.2.1∧putK (Cod.key p_2.2.2.2.2.2.2.1) true p_2.2.2.1=putK (Cod.key p_2.2.2.2.2.2.2.1) true p_2.2.2.1∧Mp.put (fun (x x_1:List UInt8)=>x==x_1) p_2.2.2.2.2.2.1 true p_2.2.2.2.1=Mp.put (fun (x x_1:List UInt8)=>x==x_1) p_2.2.2.2.2.2.1 true p_2.2.2.2.1∧True)
abbrev qhx (e:Cod.Ear) (p:Nat×q08×q03×q05) (p':Nat) (p_1:Nat×q08×q03×q0m×q05×Cod.Giv) (p_3:Nat×q03×q05):Prop :=
 (p'≤((getK (Cod.key (p_1.2.2.2.2.2.2.1.set (p.1:Int).toNat ((e.near (p_1.2.2.2.2.2.2.1.getD (p.1:Int).toNat (0:Int))).getD (p_3.1:Int).toNat (0:Int)))) p_1.2.2.2.2.1).getD []).length∧((List.take p' ((getK (Cod.key (p_1.2.2.2.2.2.2.1.set (p.1:Int).toNat ((e.near (p_1.2.2.2.2.2.2.1.getD (p.1:Int).toNat (0:Int))).getD (p_3.1:Int).toNat (0:Int)))) p_1.2.2.2.2.1).getD [])).any fun (o:List UInt8×List Int×Bool×Int×Int)=>Cod.q1s o p_1.2.2.2.2.2)=false)
abbrev qan (e:Cod.Ear) (p':Nat×q08×q03×q05) (p_1:Nat×q08×q03×q0m×q05×Cod.Giv):Prop :=
 (p'.1≤p_1.2.2.2.2.2.2.1.length∧q1a e p'.2.1∧(e.q18 p_1.2.2.2.2.2.2.1 p'.1 (0:Nat)).all (q3e p_1.2.2.1 p_1.2.2.2.2.1 p_1.2.2.2.2.2)=true)
abbrev qcv (p:Nat×q08×q03×q05) (p':Nat×q08×q03×q05) (p_1:Nat×q08×q03×q0m×q05×Cod.Giv):Prop :=
 ((p.1:Int)+1=(p'.1:Int)∧True∧True∧True∧True∧p_1.2.2.2.2.2.2.1=p_1.2.2.2.2.2.2.1∧(p_1.2.2.2.2.2.2.1.length:Int)=(p_1.2.2.2.2.2.2.1.length:Int)∧True)
abbrev qhy (e:Cod.Ear) (p:q08) (p':Nat×q03×q05) (p_2:Nat×q08×q03×q0m×q05×Cod.Giv) (p_3:Nat×q08×q03×q05) (p_4:Nat×q03×q05):Prop :=
 (putK (Cod.key (p_2.2.2.2.2.2.2.1.set (p_3.1:Int).toNat ((e.near (p_2.2.2.2.2.2.2.1.getD (p_3.1:Int).toNat (0:Int))).getD (p_4.1:Int).toNat (0:Int)))) true p_4.2.1=p'.2.1∧p=p∧putK (Cod.key p_2.2.2.2.2.2.2.1) true p_2.2.2.1=putK (Cod.key p_2.2.2.2.2.2.2.1) true p_2.2.2.1∧Mp.put (fun (x x_1:List UInt8)=>x==x_1) p_2.2.2.2.2.2.1 true p_2.2.2.2.1=Mp.put (fun (x x_1:List UInt8)=>x==x_1) p_2.2.2.2.2.2.1 true p_2.2.2.2.1∧True)
abbrev qds (e:Cod.Ear) (p:Nat×q08×q03×q05) (p':Nat×q03×q05) (p_1:Nat×q08×q03×q0m×q05×Cod.Giv):Prop :=
 (p'.1≤(e.near (p_1.2.2.2.2.2.2.1.getD (p.1:Int).toNat (0:Int))).length∧(q3b e p_1.2.2.2.2.2.2.1 (p.1:Int).toNat p'.1).all (q3e p_1.2.2.1 p_1.2.2.2.2.1 p_1.2.2.2.2.2)=true)
abbrev qhd (e:Cod.Ear):Prop :=
 ((e.lang=e.lang∧e.ws=e.ws∧True)∧(e.lang=e.lang∧e.ws=e.ws∧True∧e.c=e.c∧True)∧(True∧True∧True∧True)∧(e.lang=e.lang∧e.ws=e.ws∧True)∧True)
abbrev qhv (p:Nat×q08×q03×q05) (p':Nat) (p_1:Nat×q08×q03×q0m×q05×Cod.Giv):Prop :=
 (p'≤((getK (Cod.key (p_1.2.2.2.2.2.2.1.eraseIdx (p.1:Int).toNat)) p_1.2.2.2.2.1).getD []).length∧((List.take p' ((getK (Cod.key (p_1.2.2.2.2.2.2.1.eraseIdx (p.1:Int).toNat)) p_1.2.2.2.2.1).getD [])).any fun (o:List UInt8×List Int×Bool×Int×Int)=>Cod.q1s o p_1.2.2.2.2.2)=false)
set_option maxRecDepth 100000 in
theorem proper_vc (e:Cod.Ear) (book:q0f) (h:qao.pre ((e.lang,e.ws),e.c,book)) :
  (((q13 (e.lang,e.ws)∧bif Snd.q0n e.lang e.ws then q0u e.c∧∃ (p':Unit),True∧(q6u book e)∧(q3r e)∧True∧True∧(([]:q08)=[]∧True)∧True∧True∧True∧True∧True else ∃ (p':Unit),True∧(q6s book e)∧(q3r e)∧True∧True∧(([]:q08)=[]∧True)∧True∧True∧True∧True∧True)∧q13 (e.lang,e.ws)∧bif Snd.q0n e.lang e.ws then (q0u e.c∧∃ (p':Unit),True∧(q6u book e)∧(q3r e)∧True∧True∧(([]:q08)=[]∧True)∧True∧True∧True∧True∧True)∧q0u e.c∧∃ (p':Unit),True∧(q6u book e)∧(q3r e)∧True∧True∧(([]:q08)=[]∧True)∧True∧True∧True∧True∧True else (∃ (p':Unit),True∧(q6s book e)∧(q3r e)∧True∧True∧(([]:q08)=[]∧True)∧True∧True∧True∧True∧True)∧∃ (p':Unit),True∧(q6s book e)∧(q3r e)∧True∧True∧(([]:q08)=[]∧True)∧True∧True∧True∧True∧True)∧q13 (e.lang,e.ws)∧bif Snd.q0n e.lang e.ws then ((q0u e.c∧∃ (p':Unit),True∧(q6u book e)∧(q3r e)∧True∧True∧(([]:q08)=[]∧True)∧True∧True∧True∧True∧True)∧q0u e.c∧∃ (p':Unit),True∧(q6u book e)∧(q3r e)∧True∧True∧(([]:q08)=[]∧True)∧True∧True∧True∧True∧True)∧q0u e.c∧∃ (p':Unit),True∧(q6u book e)∧(q3r e)∧True∧True∧(([]:q08)=[]∧True)∧True∧True∧True∧True∧True else ((∃ (p':Unit),True∧(q6s book e)∧(q3r e)∧True∧True∧(([]:q08)=[]∧True)∧True∧True∧True∧True∧True)∧∃ (p':Unit),True∧(q6s book e)∧(q3r e)∧True∧True∧(([]:q08)=[]∧True)∧True∧True∧True∧True∧True)∧∃ (p':Unit),True∧(q6s book e)∧(q3r e)∧True∧True∧(([]:q08)=[]∧True)∧True∧True∧True∧True∧True)∧∀ (p:Unit),True→bif !(Snd.q0n e.lang e.ws&&Snd.q0x e.c) then false=e.proper book else bif decide ((20000:Int)<(↑(List.length book):Int)) then false=e.proper book else (∃ (p':Nat×q08×q03×q0m×q05),(p'.1≤List.length book∧q1a e p'.2.1∧q3h (List.take p'.1 book) p'.2.2.1∧q3q (List.take p'.1 book) p'.2.2.2.1∧q3n e (List.take p'.1 book) p'.2.2.2.2∧e.shelf [] (List.take p'.1 book)=true)∧((0:Int)=(p'.1:Int)∧True∧True∧True∧book=book∧(↑(List.length book):Int)=(↑(List.length book):Int)∧True)∧(qhd e)∧True∧True∧([]=p'.2.1∧[]=p'.2.2.1∧[]=p'.2.2.2.1∧True)∧True∧True∧True∧[]=p'.2.2.2.2∧True)∧∀ (p:Nat×q08×q03×q0m×q05),p.1≤List.length book∧q1a e p.2.1∧q3h (List.take p.1 book) p.2.2.1∧q3q (List.take p.1 book) p.2.2.2.1∧q3n e (List.take p.1 book) p.2.2.2.2∧e.shelf [] (List.take p.1 book)=true→bif decide ((p.1:Int)<(↑(List.length book):Int)) then ((0≤(p.1:Int)∧(p.1:Int)<(↑(List.length book):Int))∧∃ (p':Nat×q08×q03×q0m×q05×Cod.Giv),(p'.1=(p.1:Int).toNat∧p'.1<List.length book∧p'.2.2.2.2.2=List.getD book p'.1 Cod.noG∧q1a e p'.2.1∧q3h (List.take p'.1 book) p'.2.2.1∧q3q (List.take p'.1 book) p'.2.2.2.1∧q3n e (List.take p'.1 book) p'.2.2.2.2.1∧e.shelf [] (List.take p'.1 book)=true)∧(True∧(p.1:Int)=(p'.1:Int)∧True∧True∧True∧book=book∧(↑(List.length book):Int)=(↑(List.length book):Int)∧True)∧(((List.getD book (p.1:Int).toNat Cod.noG).1=p'.2.2.2.2.2.1∧(List.getD book (p.1:Int).toNat Cod.noG).2.1=p'.2.2.2.2.2.2.1∧(List.getD book (p.1:Int).toNat Cod.noG).2.2.1=p'.2.2.2.2.2.2.2.1∧(List.getD book (p.1:Int).toNat Cod.noG).2.2.2.1=p'.2.2.2.2.2.2.2.2.1∧(List.getD book (p.1:Int).toNat Cod.noG).2.2.2.2=p'.2.2.2.2.2.2.2.2.2∧True)∧(e.lang=e.lang∧e.ws=e.ws∧True)∧(e.lang=e.lang∧e.ws=e.ws∧True∧e.c=e.c∧True)∧(True∧True∧True∧True)∧(e.lang=e.lang∧e.ws=e.ws∧True)∧True)∧True∧True∧(p.2.1=p'.2.1∧p.2.2.1=p'.2.2.1∧p.2.2.2.1=p'.2.2.2.1∧True)∧True∧True∧True∧p.2.2.2.2=p'.2.2.2.2.1∧True)∧∀ (p_1:Nat×q08×q03×q0m×q05×Cod.Giv),p_1.1=(p.1:Int).toNat∧p_1.1<List.length book∧p_1.2.2.2.2.2=List.getD book p_1.1 Cod.noG∧q1a e p_1.2.1∧q3h (List.take p_1.1 book) p_1.2.2.1∧q3q (List.take p_1.1 book) p_1.2.2.2.1∧q3n e (List.take p_1.1 book) p_1.2.2.2.2.1∧e.shelf [] (List.take p_1.1 book)=true→(p_1.2.2.2.2.2.1.length≤(1000:Nat)∧bif !Lx.q2j p_1.2.2.2.2.2.1 then false=e.proper book else bif (Mp.get (fun (x x_1:List UInt8)=>x==x_1) p_1.2.2.2.2.2.1 p_1.2.2.2.1).getD false then false=e.proper book else True∧bif !Cod.q4r p_1.2.2.2.2.2 then false=e.proper book else (q13 (e.lang,e.ws)∧p_1.2.2.2.2.2.2.1.length≤(1000000:Nat))∧bif !Cod.q2a e.lang e.ws p_1.2.2.2.2.2.2.1 then false=e.proper book else True∧bif (getK (Cod.key p_1.2.2.2.2.2.2.1) p_1.2.2.1).getD false then false=e.proper book else bif decide ((0:Int)<(↑((getK (Cod.key p_1.2.2.2.2.2.2.1) p_1.2.2.2.2.1).getD []).length:Int)) then false=e.proper book else (∃ (p':Nat×q08×q03×q05),(qan e p' p_1)∧((0:Int)=(p'.1:Int)∧True∧True∧True∧True∧p_1.2.2.2.2.2.2.1=p_1.2.2.2.2.2.2.1∧(p_1.2.2.2.2.2.2.1.length:Int)=(p_1.2.2.2.2.2.2.1.length:Int)∧True)∧(q2m e p_1)∧True∧True∧(p_1.2.1=p'.2.1∧p_1.2.2.1=p_1.2.2.1∧p_1.2.2.2.1=p_1.2.2.2.1∧True)∧(q6c book p_1)∧True∧True∧p_1.2.2.2.2.1=p_1.2.2.2.2.1∧True∧(True∧True∧True∧True)∧True)∧∀ (p:Nat×q08×q03×q05),p.1≤p_1.2.2.2.2.2.2.1.length∧q1a e p.2.1∧(e.q18 p_1.2.2.2.2.2.2.1 p.1 (0:Nat)).all (q3e p_1.2.2.1 p_1.2.2.2.2.1 p_1.2.2.2.2.2)=true→bif decide ((p.1:Int)<(p_1.2.2.2.2.2.2.1.length:Int)) then (0≤(p.1:Int)∧(p.1:Int)<(p_1.2.2.2.2.2.2.1.length:Int))∧(bif !(Mp.get (fun (x x_1:Int)=>x==x_1) (p_1.2.2.2.2.2.2.1.getD (p.1:Int).toNat (0:Int)) p.2.1).isSome then ((0:Int)≤p_1.2.2.2.2.2.2.1.getD (p.1:Int).toNat (0:Int)∧p_1.2.2.2.2.2.2.1.getD (p.1:Int).toNat 0<(e.ws.length:Int))∧(q13 (e.lang,e.ws)∧q0u e.c∧(e.ws.getD (p_1.2.2.2.2.2.2.1.getD (p.1:Int).toNat (0:Int)).toNat []).length≤(1000000:Nat))∧∃ (p':q08),q1a e p'∧((Snd.q3o e.lang e.ws e.c (e.ws.getD (p_1.2.2.2.2.2.2.1.getD (p.1:Int).toNat (0:Int)).toNat [])).1=e.near (p_1.2.2.2.2.2.2.1.getD (p.1:Int).toNat (0:Int))∧True)∧(q2m e p_1)∧True∧True∧(Mp.put (fun (x x_1:Int)=>x==x_1) (p_1.2.2.2.2.2.2.1.getD (p.1:Int).toNat (0:Int)) (Snd.q3o e.lang e.ws e.c (e.ws.getD (p_1.2.2.2.2.2.2.1.getD (p.1:Int).toNat (0:Int)).toNat [])).1 p.2.1=p'∧p_1.2.2.1=p_1.2.2.1∧p_1.2.2.2.1=p_1.2.2.2.1∧True)∧(qhu book p p_1)∧True∧True∧p_1.2.2.2.2.1=p_1.2.2.2.2.1∧True∧(True∧True∧True∧True)∧True else ∃ (p':q08),q1a e p'∧((Mp.get (fun (x x_1:Int)=>x==x_1) (p_1.2.2.2.2.2.2.1.getD (p.1:Int).toNat (0:Int)) p.2.1).getD []=e.near (p_1.2.2.2.2.2.2.1.getD (p.1:Int).toNat (0:Int))∧True)∧(q2m e p_1)∧True∧True∧(p.2.1=p'∧p_1.2.2.1=p_1.2.2.1∧p_1.2.2.2.1=p_1.2.2.2.1∧True)∧(qhu book p p_1)∧True∧True∧p_1.2.2.2.2.1=p_1.2.2.2.2.1∧True∧(True∧True∧True∧True)∧True)∧∀ (p_2:q08),q1a e p_2→(∃ (p':Nat×q03×q05),(qds e p p' p_1)∧((0:Int)=(p'.1:Int)∧True∧True∧True∧True∧(p.1:Int)=(p.1:Int)∧p_1.2.2.2.2.2.2.1.getD (p.1:Int).toNat (0:Int)=p_1.2.2.2.2.2.2.1.getD (p.1:Int).toNat (0:Int)∧p_1.2.2.2.2.2.2.1=p_1.2.2.2.2.2.2.1∧(p_1.2.2.2.2.2.2.1.length:Int)=(p_1.2.2.2.2.2.2.1.length:Int)∧(p.1:Int)=(p.1:Int)∧e.near (p_1.2.2.2.2.2.2.1.getD (p.1:Int).toNat (0:Int))=e.near (p_1.2.2.2.2.2.2.1.getD (p.1:Int).toNat (0:Int))∧(↑(e.near (p_1.2.2.2.2.2.2.1.getD (p.1:Int).toNat (0:Int))).length:Int)=(↑(e.near (p_1.2.2.2.2.2.2.1.getD (p.1:Int).toNat (0:Int))).length:Int)∧True)∧(q2m e p_1)∧True∧True∧(q3v p_1 p_2)∧(q6c book p_1)∧True∧True∧p_1.2.2.2.2.1=p_1.2.2.2.2.1∧True∧(True∧True∧True∧True)∧True)∧∀ (p_3:Nat×q03×q05),p_3.1≤(e.near (p_1.2.2.2.2.2.2.1.getD (p.1:Int).toNat (0:Int))).length∧(q3b e p_1.2.2.2.2.2.2.1 (p.1:Int).toNat p_3.1).all (q3e p_1.2.2.1 p_1.2.2.2.2.1 p_1.2.2.2.2.2)=true→bif decide ((p_3.1:Int)<(↑(e.near (p_1.2.2.2.2.2.2.1.getD (p.1:Int).toNat (0:Int))).length:Int)) then (0≤(p_3.1:Int)∧(p_3.1:Int)<(↑(e.near (p_1.2.2.2.2.2.2.1.getD (p.1:Int).toNat (0:Int))).length:Int))∧bif (e.near (p_1.2.2.2.2.2.2.1.getD (p.1:Int).toNat (0:Int))).getD (p_3.1:Int).toNat (0:Int) != p_1.2.2.2.2.2.2.1.getD (p.1:Int).toNat (0:Int) then p_1.2.2.2.2.2.2.1.length≤(1000000:Nat)∧(0≤(p.1:Int)∧(p.1:Int)<(p_1.2.2.2.2.2.2.1.length:Int))∧bif (p.1:Int).toNat.beq (p.1:Int).toNat then True∧bif (getK (Cod.key (p_1.2.2.2.2.2.2.1.set (p.1:Int).toNat ((e.near (p_1.2.2.2.2.2.2.1.getD (p.1:Int).toNat (0:Int))).getD (p_3.1:Int).toNat (0:Int)))) p_1.2.2.1).getD false then false=e.proper book else (∃ (p':Nat),(qhx e p p' p_1 p_3)∧((0:Int)=(p':Int)∧Cod.key (p_1.2.2.2.2.2.2.1.set (p.1:Int).toNat ((e.near (p_1.2.2.2.2.2.2.1.getD (p.1:Int).toNat (0:Int))).getD (p_3.1:Int).toNat (0:Int)))=Cod.key (p_1.2.2.2.2.2.2.1.set (p.1:Int).toNat ((e.near (p_1.2.2.2.2.2.2.1.getD (p.1:Int).toNat (0:Int))).getD (p_3.1:Int).toNat (0:Int)))∧True∧(↑((getK (Cod.key (p_1.2.2.2.2.2.2.1.set (p.1:Int).toNat ((e.near (p_1.2.2.2.2.2.2.1.getD (p.1:Int).toNat (0:Int))).getD (p_3.1:Int).toNat (0:Int)))) p_1.2.2.2.2.1).getD []).length:Int)=(↑((getK (Cod.key (p_1.2.2.2.2.2.2.1.set (p.1:Int).toNat ((e.near (p_1.2.2.2.2.2.2.1.getD (p.1:Int).toNat (0:Int))).getD (p_3.1:Int).toNat (0:Int)))) p_1.2.2.2.2.1).getD []).length:Int)∧True)∧(q2m e p_1)∧True∧True∧(q3v p_1 p_2)∧(zCoG0_6 book e p p_1 p_3)∧True∧True∧p_1.2.2.2.2.1=p_1.2.2.2.2.1∧True∧(True∧True∧True∧True)∧True)∧∀ (p_4:Nat),p_4≤((getK (Cod.key (p_1.2.2.2.2.2.2.1.set (p.1:Int).toNat ((e.near (p_1.2.2.2.2.2.2.1.getD (p.1:Int).toNat (0:Int))).getD (p_3.1:Int).toNat (0:Int)))) p_1.2.2.2.2.1).getD []).length∧((List.take p_4 ((getK (Cod.key (p_1.2.2.2.2.2.2.1.set (p.1:Int).toNat ((e.near (p_1.2.2.2.2.2.2.1.getD (p.1:Int).toNat (0:Int))).getD (p_3.1:Int).toNat (0:Int)))) p_1.2.2.2.2.1).getD [])).any fun (o:List UInt8×List Int×Bool×Int×Int)=>Cod.q1s o p_1.2.2.2.2.2)=false→bif decide ((p_4:Int)<(↑((getK (Cod.key (p_1.2.2.2.2.2.2.1.set (p.1:Int).toNat ((e.near (p_1.2.2.2.2.2.2.1.getD (p.1:Int).toNat (0:Int))).getD (p_3.1:Int).toNat (0:Int)))) p_1.2.2.2.2.1).getD []).length:Int)) then (0≤(p_4:Int)∧(p_4:Int)<(↑((getK (Cod.key (p_1.2.2.2.2.2.2.1.set (p.1:Int).toNat ((e.near (p_1.2.2.2.2.2.2.1.getD (p.1:Int).toNat (0:Int))).getD (p_3.1:Int).toNat (0:Int)))) p_1.2.2.2.2.1).getD []).length:Int))∧True∧bif Cod.q1s (((getK (Cod.key (p_1.2.2.2.2.2.2.1.set (p.1:Int).toNat ((e.near (p_1.2.2.2.2.2.2.1.getD (p.1:Int).toNat (0:Int))).getD (p_3.1:Int).toNat (0:Int)))) p_1.2.2.2.2.1).getD []).getD (p_4:Int).toNat Cod.noG) p_1.2.2.2.2.2 then false=e.proper book else (zFit ((p_4:Int)+1))∧∃ (p':Nat),(qhx e p p' p_1 p_3)∧((getK (Cod.key (p_1.2.2.2.2.2.2.1.set (p.1:Int).toNat ((e.near (p_1.2.2.2.2.2.2.1.getD (p.1:Int).toNat (0:Int))).getD (p_3.1:Int).toNat (0:Int)))) p_1.2.2.2.2.1).getD []).length-p'<((getK (Cod.key (p_1.2.2.2.2.2.2.1.set (p.1:Int).toNat ((e.near (p_1.2.2.2.2.2.2.1.getD (p.1:Int).toNat (0:Int))).getD (p_3.1:Int).toNat (0:Int)))) p_1.2.2.2.2.1).getD []).length-p_4∧((p_4:Int)+1=(p':Int)∧Cod.key (p_1.2.2.2.2.2.2.1.set (p.1:Int).toNat ((e.near (p_1.2.2.2.2.2.2.1.getD (p.1:Int).toNat (0:Int))).getD (p_3.1:Int).toNat (0:Int)))=Cod.key (p_1.2.2.2.2.2.2.1.set (p.1:Int).toNat ((e.near (p_1.2.2.2.2.2.2.1.getD (p.1:Int).toNat (0:Int))).getD (p_3.1:Int).toNat (0:Int)))∧True∧(↑((getK (Cod.key (p_1.2.2.2.2.2.2.1.set (p.1:Int).toNat ((e.near (p_1.2.2.2.2.2.2.1.getD (p.1:Int).toNat (0:Int))).getD (p_3.1:Int).toNat (0:Int)))) p_1.2.2.2.2.1).getD []).length:Int)=(↑((getK (Cod.key (p_1.2.2.2.2.2.2.1.set (p.1:Int).toNat ((e.near (p_1.2.2.2.2.2.2.1.getD (p.1:Int).toNat (0:Int))).getD (p_3.1:Int).toNat (0:Int)))) p_1.2.2.2.2.1).getD []).length:Int)∧True)∧(q2m e p_1)∧True∧True∧(q3v p_1 p_2)∧(zCoG0_6 book e p p_1 p_3)∧True∧True∧p_1.2.2.2.2.1=p_1.2.2.2.2.1∧True∧(True∧True∧True∧True)∧True else (zFit ((p_3.1:Int)+1))∧∃ (p':Nat×q03×q05),(qds e p p' p_1)∧(e.near (p_1.2.2.2.2.2.2.1.getD (p.1:Int).toNat (0:Int))).length-p'.1<(e.near (p_1.2.2.2.2.2.2.1.getD (p.1:Int).toNat (0:Int))).length-p_3.1∧(qhr e p p' p_1 p_3)∧(q2m e p_1)∧True∧True∧(q3v p_1 p_2)∧(q6c book p_1)∧True∧True∧p_1.2.2.2.2.1=p_1.2.2.2.2.1∧True∧(True∧True∧True∧True)∧True else False else (zFit ((p_3.1:Int)+1))∧∃ (p':Nat×q03×q05),(qds e p p' p_1)∧(e.near (p_1.2.2.2.2.2.2.1.getD (p.1:Int).toNat (0:Int))).length-p'.1<(e.near (p_1.2.2.2.2.2.2.1.getD (p.1:Int).toNat (0:Int))).length-p_3.1∧(qhr e p p' p_1 p_3)∧(q2m e p_1)∧True∧True∧(q3v p_1 p_2)∧(q6c book p_1)∧True∧True∧p_1.2.2.2.2.1=p_1.2.2.2.2.1∧True∧(True∧True∧True∧True)∧True else (p_1.2.2.2.2.2.2.1.length≤(1000000:Nat)∧(zFit ((p.1:Int)+1))∧((p.1:Int)+1=(p.1:Int)+1∧0≤(p.1:Int)∧(p.1:Int)<(p_1.2.2.2.2.2.2.1.length:Int))∧True∧bif (getK (Cod.key (p_1.2.2.2.2.2.2.1.eraseIdx (p.1:Int).toNat)) p_1.2.2.1).getD false then false=e.proper book else (∃ (p':Nat),(qhv p p' p_1)∧((0:Int)=(p':Int)∧Cod.key (p_1.2.2.2.2.2.2.1.eraseIdx (p.1:Int).toNat)=Cod.key (p_1.2.2.2.2.2.2.1.eraseIdx (p.1:Int).toNat)∧True∧(↑((getK (Cod.key (p_1.2.2.2.2.2.2.1.eraseIdx (p.1:Int).toNat)) p_1.2.2.2.2.1).getD []).length:Int)=(↑((getK (Cod.key (p_1.2.2.2.2.2.2.1.eraseIdx (p.1:Int).toNat)) p_1.2.2.2.2.1).getD []).length:Int)∧True)∧(q2m e p_1)∧True∧True∧(q3v p_1 p_2)∧(zCoG0_7 book e p p_1 p_3)∧True∧True∧p_1.2.2.2.2.1=p_1.2.2.2.2.1∧True∧(True∧True∧True∧True)∧True)∧∀ (p_4:Nat),p_4≤((getK (Cod.key (p_1.2.2.2.2.2.2.1.eraseIdx (p.1:Int).toNat)) p_1.2.2.2.2.1).getD []).length∧((List.take p_4 ((getK (Cod.key (p_1.2.2.2.2.2.2.1.eraseIdx (p.1:Int).toNat)) p_1.2.2.2.2.1).getD [])).any fun (o:List UInt8×List Int×Bool×Int×Int)=>Cod.q1s o p_1.2.2.2.2.2)=false→bif decide ((p_4:Int)<(↑((getK (Cod.key (p_1.2.2.2.2.2.2.1.eraseIdx (p.1:Int).toNat)) p_1.2.2.2.2.1).getD []).length:Int)) then (0≤(p_4:Int)∧(p_4:Int)<(↑((getK (Cod.key (p_1.2.2.2.2.2.2.1.eraseIdx (p.1:Int).toNat)) p_1.2.2.2.2.1).getD []).length:Int))∧True∧bif Cod.q1s (((getK (Cod.key (p_1.2.2.2.2.2.2.1.eraseIdx (p.1:Int).toNat)) p_1.2.2.2.2.1).getD []).getD (p_4:Int).toNat Cod.noG) p_1.2.2.2.2.2 then false=e.proper book else (zFit ((p_4:Int)+1))∧∃ (p':Nat),(qhv p p' p_1)∧((getK (Cod.key (p_1.2.2.2.2.2.2.1.eraseIdx (p.1:Int).toNat)) p_1.2.2.2.2.1).getD []).length-p'<((getK (Cod.key (p_1.2.2.2.2.2.2.1.eraseIdx (p.1:Int).toNat)) p_1.2.2.2.2.1).getD []).length-p_4∧((p_4:Int)+1=(p':Int)∧Cod.key (p_1.2.2.2.2.2.2.1.eraseIdx (p.1:Int).toNat)=Cod.key (p_1.2.2.2.2.2.2.1.eraseIdx (p.1:Int).toNat)∧True∧(↑((getK (Cod.key (p_1.2.2.2.2.2.2.1.eraseIdx (p.1:Int).toNat)) p_1.2.2.2.2.1).getD []).length:Int)=(↑((getK (Cod.key (p_1.2.2.2.2.2.2.1.eraseIdx (p.1:Int).toNat)) p_1.2.2.2.2.1).getD []).length:Int)∧True)∧(q2m e p_1)∧True∧True∧(q3v p_1 p_2)∧(zCoG0_7 book e p p_1 p_3)∧True∧True∧p_1.2.2.2.2.1=p_1.2.2.2.2.1∧True∧(True∧True∧True∧True)∧True else ∃ (p':q03×q05),q3e p_1.2.2.1 p_1.2.2.2.2.1 p_1.2.2.2.2.2 (p_1.2.2.2.2.2.2.1.eraseIdx (p.1:Int).toNat)=true∧(True∧True∧True∧True∧(p.1:Int)=(p.1:Int)∧p_1.2.2.2.2.2.2.1.getD (p.1:Int).toNat (0:Int)=p_1.2.2.2.2.2.2.1.getD (p.1:Int).toNat (0:Int)∧p_1.2.2.2.2.2.2.1=p_1.2.2.2.2.2.2.1∧(p_1.2.2.2.2.2.2.1.length:Int)=(p_1.2.2.2.2.2.2.1.length:Int)∧(p.1:Int)=(p.1:Int)∧True)∧(q2m e p_1)∧True∧True∧(q3v p_1 p_2)∧(q6c book p_1)∧True∧True∧p_1.2.2.2.2.1=p_1.2.2.2.2.1∧True∧(True∧True∧True∧True)∧True)∧∀ (p_4:q03×q05),q3e p_1.2.2.1 p_1.2.2.2.2.1 p_1.2.2.2.2.2 (p_1.2.2.2.2.2.2.1.eraseIdx (p.1:Int).toNat)=true→bif (p.1:Int)==(0:Int) then (zFit ((p.1:Int)+1))∧∃ (p':Nat×q08×q03×q05),(qan e p' p_1)∧p_1.2.2.2.2.2.2.1.length-p'.1<p_1.2.2.2.2.2.2.1.length-p.1∧(qcv p p' p_1)∧(q2m e p_1)∧True∧True∧(p_2=p'.2.1∧p_1.2.2.1=p_1.2.2.1∧p_1.2.2.2.1=p_1.2.2.2.1∧True)∧(q6c book p_1)∧True∧True∧p_1.2.2.2.2.1=p_1.2.2.2.2.1∧True∧(True∧True∧True∧True)∧True else (zFit ((p.1:Int)-1))∧(0≤(p.1:Int)-1∧(p.1:Int)-1<(p_1.2.2.2.2.2.2.1.length:Int))∧bif p_1.2.2.2.2.2.2.1.getD ((p.1:Int)-1).toNat (0:Int)==p_1.2.2.2.2.2.2.1.getD (p.1:Int).toNat (0:Int) then (zFit ((p.1:Int)+1))∧∃ (p':Nat×q08×q03×q05),(qan e p' p_1)∧p_1.2.2.2.2.2.2.1.length-p'.1<p_1.2.2.2.2.2.2.1.length-p.1∧(qcv p p' p_1)∧(q2m e p_1)∧True∧True∧(p_2=p'.2.1∧p_1.2.2.1=p_1.2.2.1∧p_1.2.2.2.1=p_1.2.2.2.1∧True)∧(q6c book p_1)∧True∧True∧p_1.2.2.2.2.1=p_1.2.2.2.2.1∧True∧(True∧True∧True∧True)∧True else (zFit ((p.1:Int)-1))∧(0≤(p.1:Int)-1∧(p.1:Int)-1<(p_1.2.2.2.2.2.2.1.length:Int))∧p_1.2.2.2.2.2.2.1.length≤(1000000:Nat)∧(0≤(p.1:Int)∧(p.1:Int)<(p_1.2.2.2.2.2.2.1.length:Int))∧bif (p.1:Int).toNat.beq (p.1:Int).toNat then (zFit ((p.1:Int)-1))∧(0≤(p.1:Int)-1∧(p.1:Int)-1<(↑(p_1.2.2.2.2.2.2.1.set (p.1:Int).toNat (p_1.2.2.2.2.2.2.1.getD ((p.1:Int)-1).toNat (0:Int))).length:Int))∧bif ((p.1:Int)-1).toNat.beq ((p.1:Int)-1).toNat then True∧bif (getK (Cod.key ((p_1.2.2.2.2.2.2.1.set (p.1:Int).toNat (p_1.2.2.2.2.2.2.1.getD ((p.1:Int)-1).toNat (0:Int))).set ((p.1:Int)-1).toNat (p_1.2.2.2.2.2.2.1.getD (p.1:Int).toNat (0:Int)))) p_1.2.2.1).getD false then false=e.proper book else (∃ (p':Nat),(qhl p p' p_1)∧((0:Int)=(p':Int)∧Cod.key ((p_1.2.2.2.2.2.2.1.set (p.1:Int).toNat (p_1.2.2.2.2.2.2.1.getD ((p.1:Int)-1).toNat (0:Int))).set ((p.1:Int)-1).toNat (p_1.2.2.2.2.2.2.1.getD (p.1:Int).toNat (0:Int)))=Cod.key ((p_1.2.2.2.2.2.2.1.set (p.1:Int).toNat (p_1.2.2.2.2.2.2.1.getD ((p.1:Int)-1).toNat (0:Int))).set ((p.1:Int)-1).toNat (p_1.2.2.2.2.2.2.1.getD (p.1:Int).toNat (0:Int)))∧True∧(↑((getK (Cod.key ((p_1.2.2.2.2.2.2.1.set (p.1:Int).toNat (p_1.2.2.2.2.2.2.1.getD ((p.1:Int)-1).toNat (0:Int))).set ((p.1:Int)-1).toNat (p_1.2.2.2.2.2.2.1.getD (p.1:Int).toNat (0:Int)))) p_1.2.2.2.2.1).getD []).length:Int)=(↑((getK (Cod.key ((p_1.2.2.2.2.2.2.1.set (p.1:Int).toNat (p_1.2.2.2.2.2.2.1.getD ((p.1:Int)-1).toNat (0:Int))).set ((p.1:Int)-1).toNat (p_1.2.2.2.2.2.2.1.getD (p.1:Int).toNat (0:Int)))) p_1.2.2.2.2.1).getD []).length:Int)∧True)∧(q2m e p_1)∧True∧True∧(q3v p_1 p_2)∧(qht book p p_1)∧True∧True∧p_1.2.2.2.2.1=p_1.2.2.2.2.1∧True∧(True∧True∧True∧True)∧True)∧∀ (p_5:Nat),p_5≤((getK (Cod.key ((p_1.2.2.2.2.2.2.1.set (p.1:Int).toNat (p_1.2.2.2.2.2.2.1.getD ((p.1:Int)-1).toNat (0:Int))).set ((p.1:Int)-1).toNat (p_1.2.2.2.2.2.2.1.getD (p.1:Int).toNat (0:Int)))) p_1.2.2.2.2.1).getD []).length∧((List.take p_5 ((getK (Cod.key ((p_1.2.2.2.2.2.2.1.set (p.1:Int).toNat (p_1.2.2.2.2.2.2.1.getD ((p.1:Int)-1).toNat (0:Int))).set ((p.1:Int)-1).toNat (p_1.2.2.2.2.2.2.1.getD (p.1:Int).toNat (0:Int)))) p_1.2.2.2.2.1).getD [])).any fun (o:List UInt8×List Int×Bool×Int×Int)=>Cod.q1s o p_1.2.2.2.2.2)=false→bif decide ((p_5:Int)<(↑((getK (Cod.key ((p_1.2.2.2.2.2.2.1.set (p.1:Int).toNat (p_1.2.2.2.2.2.2.1.getD ((p.1:Int)-1).toNat (0:Int))).set ((p.1:Int)-1).toNat (p_1.2.2.2.2.2.2.1.getD (p.1:Int).toNat (0:Int)))) p_1.2.2.2.2.1).getD []).length:Int)) then (0≤(p_5:Int)∧(p_5:Int)<(↑((getK (Cod.key ((p_1.2.2.2.2.2.2.1.set (p.1:Int).toNat (p_1.2.2.2.2.2.2.1.getD ((p.1:Int)-1).toNat (0:Int))).set ((p.1:Int)-1).toNat (p_1.2.2.2.2.2.2.1.getD (p.1:Int).toNat (0:Int)))) p_1.2.2.2.2.1).getD []).length:Int))∧True∧bif Cod.q1s (((getK (Cod.key ((p_1.2.2.2.2.2.2.1.set (p.1:Int).toNat (p_1.2.2.2.2.2.2.1.getD ((p.1:Int)-1).toNat (0:Int))).set ((p.1:Int)-1).toNat (p_1.2.2.2.2.2.2.1.getD (p.1:Int).toNat (0:Int)))) p_1.2.2.2.2.1).getD []).getD (p_5:Int).toNat Cod.noG) p_1.2.2.2.2.2 then false=e.proper book else (zFit ((p_5:Int)+1))∧∃ (p':Nat),(qhl p p' p_1)∧((getK (Cod.key ((p_1.2.2.2.2.2.2.1.set (p.1:Int).toNat (p_1.2.2.2.2.2.2.1.getD ((p.1:Int)-1).toNat (0:Int))).set ((p.1:Int)-1).toNat (p_1.2.2.2.2.2.2.1.getD (p.1:Int).toNat (0:Int)))) p_1.2.2.2.2.1).getD []).length-p'<((getK (Cod.key ((p_1.2.2.2.2.2.2.1.set (p.1:Int).toNat (p_1.2.2.2.2.2.2.1.getD ((p.1:Int)-1).toNat (0:Int))).set ((p.1:Int)-1).toNat (p_1.2.2.2.2.2.2.1.getD (p.1:Int).toNat (0:Int)))) p_1.2.2.2.2.1).getD []).length-p_5∧((p_5:Int)+1=(p':Int)∧Cod.key ((p_1.2.2.2.2.2.2.1.set (p.1:Int).toNat (p_1.2.2.2.2.2.2.1.getD ((p.1:Int)-1).toNat (0:Int))).set ((p.1:Int)-1).toNat (p_1.2.2.2.2.2.2.1.getD (p.1:Int).toNat (0:Int)))=Cod.key ((p_1.2.2.2.2.2.2.1.set (p.1:Int).toNat (p_1.2.2.2.2.2.2.1.getD ((p.1:Int)-1).toNat (0:Int))).set ((p.1:Int)-1).toNat (p_1.2.2.2.2.2.2.1.getD (p.1:Int).toNat (0:Int)))∧True∧(↑((getK (Cod.key ((p_1.2.2.2.2.2.2.1.set (p.1:Int).toNat (p_1.2.2.2.2.2.2.1.getD ((p.1:Int)-1).toNat (0:Int))).set ((p.1:Int)-1).toNat (p_1.2.2.2.2.2.2.1.getD (p.1:Int).toNat (0:Int)))) p_1.2.2.2.2.1).getD []).length:Int)=(↑((getK (Cod.key ((p_1.2.2.2.2.2.2.1.set (p.1:Int).toNat (p_1.2.2.2.2.2.2.1.getD ((p.1:Int)-1).toNat (0:Int))).set ((p.1:Int)-1).toNat (p_1.2.2.2.2.2.2.1.getD (p.1:Int).toNat (0:Int)))) p_1.2.2.2.2.1).getD []).length:Int)∧True)∧(q2m e p_1)∧True∧True∧(q3v p_1 p_2)∧(qht book p p_1)∧True∧True∧p_1.2.2.2.2.1=p_1.2.2.2.2.1∧True∧(True∧True∧True∧True)∧True else (zFit ((p.1:Int)+1))∧∃ (p':Nat×q08×q03×q05),(qan e p' p_1)∧p_1.2.2.2.2.2.2.1.length-p'.1<p_1.2.2.2.2.2.2.1.length-p.1∧(qcv p p' p_1)∧(q2m e p_1)∧True∧True∧(p_2=p'.2.1∧p_1.2.2.1=p_1.2.2.1∧p_1.2.2.2.1=p_1.2.2.2.1∧True)∧(q6c book p_1)∧True∧True∧p_1.2.2.2.2.1=p_1.2.2.2.2.1∧True∧(True∧True∧True∧True)∧True else False else False else ∃ (p':Nat×q08×q03×q0m×q05×Cod.Giv),(p'.1=(p_1.1:Int).toNat∧p'.1<List.length book∧p'.2.2.2.2.2=List.getD book p'.1 Cod.noG∧q1a e p'.2.1∧q3h (List.take p'.1 book) p'.2.2.1∧q3q (List.take p'.1 book) p'.2.2.2.1∧q3n e (List.take p'.1 book) p'.2.2.2.2.1∧e.shelf [] (List.take (p'.1+(1:Nat)) book)=true)∧(True∧(p_1.1:Int)=(p'.1:Int)∧True∧True∧True∧book=book∧(↑(List.length book):Int)=(↑(List.length book):Int)∧True)∧((p_1.2.2.2.2.2.1=p'.2.2.2.2.2.1∧p_1.2.2.2.2.2.2.1=p'.2.2.2.2.2.2.1∧p_1.2.2.2.2.2.2.2.1=p'.2.2.2.2.2.2.2.1∧p_1.2.2.2.2.2.2.2.2.1=p'.2.2.2.2.2.2.2.2.1∧p_1.2.2.2.2.2.2.2.2.2=p'.2.2.2.2.2.2.2.2.2∧True)∧(e.lang=e.lang∧e.ws=e.ws∧True)∧(e.lang=e.lang∧e.ws=e.ws∧True∧e.c=e.c∧True)∧(True∧True∧True∧True)∧(e.lang=e.lang∧e.ws=e.ws∧True)∧(p_1.2.2.2.2.2.1=p_1.2.2.2.2.2.1∧p_1.2.2.2.2.2.2.1=p_1.2.2.2.2.2.2.1∧p_1.2.2.2.2.2.2.2.1=p_1.2.2.2.2.2.2.2.1∧p_1.2.2.2.2.2.2.2.2.1=p_1.2.2.2.2.2.2.2.2.1∧p_1.2.2.2.2.2.2.2.2.2=p_1.2.2.2.2.2.2.2.2.2∧True)∧True)∧True∧True∧(p.2.1=p'.2.1∧p_1.2.2.1=p'.2.2.1∧p_1.2.2.2.1=p'.2.2.2.1∧True)∧True∧True∧True∧p_1.2.2.2.2.1=p'.2.2.2.2.1∧True)∧∀ (p_2:Nat×q08×q03×q0m×q05×Cod.Giv),p_2.1=(p_1.1:Int).toNat∧p_2.1<List.length book∧p_2.2.2.2.2.2=List.getD book p_2.1 Cod.noG∧q1a e p_2.2.1∧q3h (List.take p_2.1 book) p_2.2.2.1∧q3q (List.take p_2.1 book) p_2.2.2.2.1∧q3n e (List.take p_2.1 book) p_2.2.2.2.2.1∧e.shelf [] (List.take (p_2.1+(1:Nat)) book)=true→True∧(∃ (p':Nat×q08×q03×q05),(q6x e p' p_2)∧((0:Int)=(p'.1:Int)∧True∧True∧True∧True∧p_2.2.2.2.2.2.2.1=p_2.2.2.2.2.2.2.1∧(p_2.2.2.2.2.2.2.1.length:Int)=(p_2.2.2.2.2.2.2.1.length:Int)∧True)∧(q2n e p_2)∧True∧True∧([]=p'.2.2.1∧p_2.2.1=p'.2.1∧putK (Cod.key p_2.2.2.2.2.2.2.1) true p_2.2.2.1=putK (Cod.key p_2.2.2.2.2.2.2.1) true p_2.2.2.1∧Mp.put (fun (x x_1:List UInt8)=>x==x_1) p_2.2.2.2.2.2.1 true p_2.2.2.2.1=Mp.put (fun (x x_1:List UInt8)=>x==x_1) p_2.2.2.2.2.2.1 true p_2.2.2.2.1∧True)∧(q3a book p_2)∧True∧True∧p_2.2.2.2.2.1=p'.2.2.2∧True∧(True∧True∧True∧True)∧True)∧∀ (p_3:Nat×q08×q03×q05),p_3.1≤p_2.2.2.2.2.2.2.1.length∧q1a e p_3.2.1∧q1l [] p_2.2.2.2.2.1 p_2.2.2.2.2.2 (e.q18 p_2.2.2.2.2.2.2.1 p_3.1 (0:Nat)) p_3.2.2.1 p_3.2.2.2→bif decide ((p_3.1:Int)<(p_2.2.2.2.2.2.2.1.length:Int)) then (0≤(p_3.1:Int)∧(p_3.1:Int)<(p_2.2.2.2.2.2.2.1.length:Int))∧(bif !(Mp.get (fun (x x_1:Int)=>x==x_1) (p_2.2.2.2.2.2.2.1.getD (p_3.1:Int).toNat (0:Int)) p_3.2.1).isSome then ((0:Int)≤p_2.2.2.2.2.2.2.1.getD (p_3.1:Int).toNat (0:Int)∧p_2.2.2.2.2.2.2.1.getD (p_3.1:Int).toNat 0<(e.ws.length:Int))∧(q13 (e.lang,e.ws)∧q0u e.c∧(e.ws.getD (p_2.2.2.2.2.2.2.1.getD (p_3.1:Int).toNat (0:Int)).toNat []).length≤(1000000:Nat))∧∃ (p':q08),q1a e p'∧((Snd.q3o e.lang e.ws e.c (e.ws.getD (p_2.2.2.2.2.2.2.1.getD (p_3.1:Int).toNat (0:Int)).toNat [])).1=e.near (p_2.2.2.2.2.2.2.1.getD (p_3.1:Int).toNat (0:Int))∧True)∧(q2n e p_2)∧True∧True∧(p_3.2.2.1=p_3.2.2.1∧Mp.put (fun (x x_1:Int)=>x==x_1) (p_2.2.2.2.2.2.2.1.getD (p_3.1:Int).toNat (0:Int)) (Snd.q3o e.lang e.ws e.c (e.ws.getD (p_2.2.2.2.2.2.2.1.getD (p_3.1:Int).toNat (0:Int)).toNat [])).1 p_3.2.1=p'∧putK (Cod.key p_2.2.2.2.2.2.2.1) true p_2.2.2.1=putK (Cod.key p_2.2.2.2.2.2.2.1) true p_2.2.2.1∧Mp.put (fun (x x_1:List UInt8)=>x==x_1) p_2.2.2.2.2.2.1 true p_2.2.2.2.1=Mp.put (fun (x x_1:List UInt8)=>x==x_1) p_2.2.2.2.2.2.1 true p_2.2.2.2.1∧True)∧(qi0 book p_2 p_3)∧True∧True∧p_3.2.2.2=p_3.2.2.2∧True∧(True∧True∧True∧True)∧True else ∃ (p':q08),q1a e p'∧((Mp.get (fun (x x_1:Int)=>x==x_1) (p_2.2.2.2.2.2.2.1.getD (p_3.1:Int).toNat (0:Int)) p_3.2.1).getD []=e.near (p_2.2.2.2.2.2.2.1.getD (p_3.1:Int).toNat (0:Int))∧True)∧(q2n e p_2)∧True∧True∧(p_3.2.2.1=p_3.2.2.1∧p_3.2.1=p'∧putK (Cod.key p_2.2.2.2.2.2.2.1) true p_2.2.2.1=putK (Cod.key p_2.2.2.2.2.2.2.1) true p_2.2.2.1∧Mp.put (fun (x x_1:List UInt8)=>x==x_1) p_2.2.2.2.2.2.1 true p_2.2.2.2.1=Mp.put (fun (x x_1:List UInt8)=>x==x_1) p_2.2.2.2.2.2.1 true p_2.2.2.2.1∧True)∧(qi0 book p_2 p_3)∧True∧True∧p_3.2.2.2=p_3.2.2.2∧True∧(True∧True∧True∧True)∧True)∧∀ (p:q08),q1a e p→(∃ (p':Nat×q03×q05),(q8p e p' p_2 p_3)∧((0:Int)=(p'.1:Int)∧True∧True∧True∧True∧(p_3.1:Int)=(p_3.1:Int)∧p_2.2.2.2.2.2.2.1.getD (p_3.1:Int).toNat (0:Int)=p_2.2.2.2.2.2.2.1.getD (p_3.1:Int).toNat (0:Int)∧p_2.2.2.2.2.2.2.1=p_2.2.2.2.2.2.2.1∧(p_2.2.2.2.2.2.2.1.length:Int)=(p_2.2.2.2.2.2.2.1.length:Int)∧(p_3.1:Int)=(p_3.1:Int)∧e.near (p_2.2.2.2.2.2.2.1.getD (p_3.1:Int).toNat (0:Int))=e.near (p_2.2.2.2.2.2.2.1.getD (p_3.1:Int).toNat (0:Int))∧(↑(e.near (p_2.2.2.2.2.2.2.1.getD (p_3.1:Int).toNat (0:Int))).length:Int)=(↑(e.near (p_2.2.2.2.2.2.2.1.getD (p_3.1:Int).toNat (0:Int))).length:Int)∧True)∧(q2n e p_2)∧True∧True∧(p_3.2.2.1=p'.2.1∧p=p∧putK (Cod.key p_2.2.2.2.2.2.2.1) true p_2.2.2.1=putK (Cod.key p_2.2.2.2.2.2.2.1) true p_2.2.2.1∧Mp.put (fun (x x_1:List UInt8)=>x==x_1) p_2.2.2.2.2.2.1 true p_2.2.2.2.1=Mp.put (fun (x x_1:List UInt8)=>x==x_1) p_2.2.2.2.2.2.1 true p_2.2.2.2.1∧True)∧(q3a book p_2)∧True∧True∧p_3.2.2.2=p'.2.2∧True∧(True∧True∧True∧True)∧True)∧∀ (p_4:Nat×q03×q05),p_4.1≤(e.near (p_2.2.2.2.2.2.2.1.getD (p_3.1:Int).toNat (0:Int))).length∧q1l p_3.2.2.1 p_3.2.2.2 p_2.2.2.2.2.2 (q3b e p_2.2.2.2.2.2.2.1 (p_3.1:Int).toNat p_4.1) p_4.2.1 p_4.2.2→bif decide ((p_4.1:Int)<(↑(e.near (p_2.2.2.2.2.2.2.1.getD (p_3.1:Int).toNat (0:Int))).length:Int)) then (0≤(p_4.1:Int)∧(p_4.1:Int)<(↑(e.near (p_2.2.2.2.2.2.2.1.getD (p_3.1:Int).toNat (0:Int))).length:Int))∧bif (e.near (p_2.2.2.2.2.2.2.1.getD (p_3.1:Int).toNat (0:Int))).getD (p_4.1:Int).toNat (0:Int) != p_2.2.2.2.2.2.2.1.getD (p_3.1:Int).toNat (0:Int) then p_2.2.2.2.2.2.2.1.length≤(1000000:Nat)∧(0≤(p_3.1:Int)∧(p_3.1:Int)<(p_2.2.2.2.2.2.2.1.length:Int))∧bif (p_3.1:Int).toNat.beq (p_3.1:Int).toNat then True∧bif !(getK (Cod.key (p_2.2.2.2.2.2.2.1.set (p_3.1:Int).toNat ((e.near (p_2.2.2.2.2.2.2.1.getD (p_3.1:Int).toNat (0:Int))).getD (p_4.1:Int).toNat (0:Int)))) p_4.2.1).getD false then ((((getK (Cod.key (p_2.2.2.2.2.2.2.1.set (p_3.1:Int).toNat ((e.near (p_2.2.2.2.2.2.2.1.getD (p_3.1:Int).toNat (0:Int))).getD (p_4.1:Int).toNat (0:Int)))) (putK (Cod.key (p_2.2.2.2.2.2.2.1.set (p_3.1:Int).toNat ((e.near (p_2.2.2.2.2.2.2.1.getD (p_3.1:Int).toNat (0:Int))).getD (p_4.1:Int).toNat (0:Int)))) ((getK (Cod.key (p_2.2.2.2.2.2.2.1.set (p_3.1:Int).toNat ((e.near (p_2.2.2.2.2.2.2.1.getD (p_3.1:Int).toNat (0:Int))).getD (p_4.1:Int).toNat (0:Int)))) p_4.2.2).getD []) p_4.2.2)).getD []).length+[p_2.2.2.2.2.2].length)*(64:Nat)≤(140737488355328:Nat)∧Cod.key (p_2.2.2.2.2.2.2.1.set (p_3.1:Int).toNat ((e.near (p_2.2.2.2.2.2.2.1.getD (p_3.1:Int).toNat (0:Int))).getD (p_4.1:Int).toNat (0:Int)))=Cod.key (p_2.2.2.2.2.2.2.1.set (p_3.1:Int).toNat ((e.near (p_2.2.2.2.2.2.2.1.getD (p_3.1:Int).toNat (0:Int))).getD (p_4.1:Int).toNat (0:Int)))∧(zFit ((p_4.1:Int)+1))∧∃ (p':Nat×q03×q05),(q8p e p' p_2 p_3)∧(e.near (p_2.2.2.2.2.2.2.1.getD (p_3.1:Int).toNat (0:Int))).length-p'.1<(e.near (p_2.2.2.2.2.2.2.1.getD (p_3.1:Int).toNat (0:Int))).length-p_4.1∧(qci e p' p_2 p_3 p_4)∧(q2n e p_2)∧True∧True∧(qhy e p p' p_2 p_3 p_4)∧(q3a book p_2)∧True∧True∧putK (Cod.key (p_2.2.2.2.2.2.2.1.set (p_3.1:Int).toNat ((e.near (p_2.2.2.2.2.2.2.1.getD (p_3.1:Int).toNat (0:Int))).getD (p_4.1:Int).toNat (0:Int)))) ((getK (Cod.key (p_2.2.2.2.2.2.2.1.set (p_3.1:Int).toNat ((e.near (p_2.2.2.2.2.2.2.1.getD (p_3.1:Int).toNat (0:Int))).getD (p_4.1:Int).toNat (0:Int)))) (putK (Cod.key (p_2.2.2.2.2.2.2.1.set (p_3.1:Int).toNat ((e.near (p_2.2.2.2.2.2.2.1.getD (p_3.1:Int).toNat (0:Int))).getD (p_4.1:Int).toNat (0:Int)))) ((getK (Cod.key (p_2.2.2.2.2.2.2.1.set (p_3.1:Int).toNat ((e.near (p_2.2.2.2.2.2.2.1.getD (p_3.1:Int).toNat (0:Int))).getD (p_4.1:Int).toNat (0:Int)))) p_4.2.2).getD []) p_4.2.2)).getD []++[p_2.2.2.2.2.2]) (putK (Cod.key (p_2.2.2.2.2.2.2.1.set (p_3.1:Int).toNat ((e.near (p_2.2.2.2.2.2.2.1.getD (p_3.1:Int).toNat (0:Int))).getD (p_4.1:Int).toNat (0:Int)))) ((getK (Cod.key (p_2.2.2.2.2.2.2.1.set (p_3.1:Int).toNat ((e.near (p_2.2.2.2.2.2.2.1.getD (p_3.1:Int).toNat (0:Int))).getD (p_4.1:Int).toNat (0:Int)))) p_4.2.2).getD []) p_4.2.2)=p'.2.2∧True∧(True∧True∧True∧True)∧True)∧(((getK (Cod.key (p_2.2.2.2.2.2.2.1.set (p_3.1:Int).toNat ((e.near (p_2.2.2.2.2.2.2.1.getD (p_3.1:Int).toNat (0:Int))).getD (p_4.1:Int).toNat (0:Int)))) (putK (Cod.key (p_2.2.2.2.2.2.2.1.set (p_3.1:Int).toNat ((e.near (p_2.2.2.2.2.2.2.1.getD (p_3.1:Int).toNat (0:Int))).getD (p_4.1:Int).toNat (0:Int)))) ((getK (Cod.key (p_2.2.2.2.2.2.2.1.set (p_3.1:Int).toNat ((e.near (p_2.2.2.2.2.2.2.1.getD (p_3.1:Int).toNat (0:Int))).getD (p_4.1:Int).toNat (0:Int)))) p_4.2.2).getD []) p_4.2.2)).getD []).length+[p_2.2.2.2.2.2].length)*(64:Nat)≤(140737488355328:Nat)∧Cod.key (p_2.2.2.2.2.2.2.1.set (p_3.1:Int).toNat ((e.near (p_2.2.2.2.2.2.2.1.getD (p_3.1:Int).toNat (0:Int))).getD (p_4.1:Int).toNat (0:Int)))=Cod.key (p_2.2.2.2.2.2.2.1.set (p_3.1:Int).toNat ((e.near (p_2.2.2.2.2.2.2.1.getD (p_3.1:Int).toNat (0:Int))).getD (p_4.1:Int).toNat (0:Int)))∧(zFit ((p_4.1:Int)+1))∧∃ (p':Nat×q03×q05),(q8p e p' p_2 p_3)∧(e.near (p_2.2.2.2.2.2.2.1.getD (p_3.1:Int).toNat (0:Int))).length-p'.1<(e.near (p_2.2.2.2.2.2.2.1.getD (p_3.1:Int).toNat (0:Int))).length-p_4.1∧(qci e p' p_2 p_3 p_4)∧(q2n e p_2)∧True∧True∧(qhy e p p' p_2 p_3 p_4)∧(q3a book p_2)∧True∧True∧putK (Cod.key (p_2.2.2.2.2.2.2.1.set (p_3.1:Int).toNat ((e.near (p_2.2.2.2.2.2.2.1.getD (p_3.1:Int).toNat (0:Int))).getD (p_4.1:Int).toNat (0:Int)))) ((getK (Cod.key (p_2.2.2.2.2.2.2.1.set (p_3.1:Int).toNat ((e.near (p_2.2.2.2.2.2.2.1.getD (p_3.1:Int).toNat (0:Int))).getD (p_4.1:Int).toNat (0:Int)))) (putK (Cod.key (p_2.2.2.2.2.2.2.1.set (p_3.1:Int).toNat ((e.near (p_2.2.2.2.2.2.2.1.getD (p_3.1:Int).toNat (0:Int))).getD (p_4.1:Int).toNat (0:Int)))) ((getK (Cod.key (p_2.2.2.2.2.2.2.1.set (p_3.1:Int).toNat ((e.near (p_2.2.2.2.2.2.2.1.getD (p_3.1:Int).toNat (0:Int))).getD (p_4.1:Int).toNat (0:Int)))) p_4.2.2).getD []) p_4.2.2)).getD []++[p_2.2.2.2.2.2]) (putK (Cod.key (p_2.2.2.2.2.2.2.1.set (p_3.1:Int).toNat ((e.near (p_2.2.2.2.2.2.2.1.getD (p_3.1:Int).toNat (0:Int))).getD (p_4.1:Int).toNat (0:Int)))) ((getK (Cod.key (p_2.2.2.2.2.2.2.1.set (p_3.1:Int).toNat ((e.near (p_2.2.2.2.2.2.2.1.getD (p_3.1:Int).toNat (0:Int))).getD (p_4.1:Int).toNat (0:Int)))) p_4.2.2).getD []) p_4.2.2)=p'.2.2∧True∧(True∧True∧True∧True)∧True else (zFit ((p_4.1:Int)+1))∧∃ (p':Nat×q03×q05),(q8p e p' p_2 p_3)∧(e.near (p_2.2.2.2.2.2.2.1.getD (p_3.1:Int).toNat (0:Int))).length-p'.1<(e.near (p_2.2.2.2.2.2.2.1.getD (p_3.1:Int).toNat (0:Int))).length-p_4.1∧(qci e p' p_2 p_3 p_4)∧(q2n e p_2)∧True∧True∧(p_4.2.1=p'.2.1∧p=p∧putK (Cod.key p_2.2.2.2.2.2.2.1) true p_2.2.2.1=putK (Cod.key p_2.2.2.2.2.2.2.1) true p_2.2.2.1∧Mp.put (fun (x x_1:List UInt8)=>x==x_1) p_2.2.2.2.2.2.1 true p_2.2.2.2.1=Mp.put (fun (x x_1:List UInt8)=>x==x_1) p_2.2.2.2.2.2.1 true p_2.2.2.2.1∧True)∧(q3a book p_2)∧True∧True∧p_4.2.2=p'.2.2∧True∧(True∧True∧True∧True)∧True else False else (zFit ((p_4.1:Int)+1))∧∃ (p':Nat×q03×q05),(q8p e p' p_2 p_3)∧(e.near (p_2.2.2.2.2.2.2.1.getD (p_3.1:Int).toNat (0:Int))).length-p'.1<(e.near (p_2.2.2.2.2.2.2.1.getD (p_3.1:Int).toNat (0:Int))).length-p_4.1∧(qci e p' p_2 p_3 p_4)∧(q2n e p_2)∧True∧True∧(p_4.2.1=p'.2.1∧p=p∧putK (Cod.key p_2.2.2.2.2.2.2.1) true p_2.2.2.1=putK (Cod.key p_2.2.2.2.2.2.2.1) true p_2.2.2.1∧Mp.put (fun (x x_1:List UInt8)=>x==x_1) p_2.2.2.2.2.2.1 true p_2.2.2.2.1=Mp.put (fun (x x_1:List UInt8)=>x==x_1) p_2.2.2.2.2.2.1 true p_2.2.2.2.1∧True)∧(q3a book p_2)∧True∧True∧p_4.2.2=p'.2.2∧True∧(True∧True∧True∧True)∧True else (p_2.2.2.2.2.2.2.1.length≤(1000000:Nat)∧(zFit ((p_3.1:Int)+1))∧((p_3.1:Int)+1=(p_3.1:Int)+1∧0≤(p_3.1:Int)∧(p_3.1:Int)<(p_2.2.2.2.2.2.2.1.length:Int))∧True∧bif !(getK (Cod.key (p_2.2.2.2.2.2.2.1.eraseIdx (p_3.1:Int).toNat)) p_4.2.1).getD false then ((((getK (Cod.key (p_2.2.2.2.2.2.2.1.eraseIdx (p_3.1:Int).toNat)) (putK (Cod.key (p_2.2.2.2.2.2.2.1.eraseIdx (p_3.1:Int).toNat)) ((getK (Cod.key (p_2.2.2.2.2.2.2.1.eraseIdx (p_3.1:Int).toNat)) p_4.2.2).getD []) p_4.2.2)).getD []).length+[p_2.2.2.2.2.2].length)*(64:Nat)≤(140737488355328:Nat)∧Cod.key (p_2.2.2.2.2.2.2.1.eraseIdx (p_3.1:Int).toNat)=Cod.key (p_2.2.2.2.2.2.2.1.eraseIdx (p_3.1:Int).toNat)∧∃ (p':q03×q05),q1l p_4.2.1 p_4.2.2 p_2.2.2.2.2.2 [p_2.2.2.2.2.2.2.1.eraseIdx (p_3.1:Int).toNat] p'.1 p'.2∧(qfp p_2 p_3)∧(q2n e p_2)∧True∧True∧(putK (Cod.key (p_2.2.2.2.2.2.2.1.eraseIdx (p_3.1:Int).toNat)) true p_4.2.1=p'.1∧p=p∧putK (Cod.key p_2.2.2.2.2.2.2.1) true p_2.2.2.1=putK (Cod.key p_2.2.2.2.2.2.2.1) true p_2.2.2.1∧Mp.put (fun (x x_1:List UInt8)=>x==x_1) p_2.2.2.2.2.2.1 true p_2.2.2.2.1=Mp.put (fun (x x_1:List UInt8)=>x==x_1) p_2.2.2.2.2.2.1 true p_2.2.2.2.1∧True)∧(q3a book p_2)∧True∧True∧putK (Cod.key (p_2.2.2.2.2.2.2.1.eraseIdx (p_3.1:Int).toNat)) ((getK (Cod.key (p_2.2.2.2.2.2.2.1.eraseIdx (p_3.1:Int).toNat)) (putK (Cod.key (p_2.2.2.2.2.2.2.1.eraseIdx (p_3.1:Int).toNat)) ((getK (Cod.key (p_2.2.2.2.2.2.2.1.eraseIdx (p_3.1:Int).toNat)) p_4.2.2).getD []) p_4.2.2)).getD []++[p_2.2.2.2.2.2]) (putK (Cod.key (p_2.2.2.2.2.2.2.1.eraseIdx (p_3.1:Int).toNat)) ((getK (Cod.key (p_2.2.2.2.2.2.2.1.eraseIdx (p_3.1:Int).toNat)) p_4.2.2).getD []) p_4.2.2)=p'.2∧True∧(True∧True∧True∧True)∧True)∧(((getK (Cod.key (p_2.2.2.2.2.2.2.1.eraseIdx (p_3.1:Int).toNat)) (putK (Cod.key (p_2.2.2.2.2.2.2.1.eraseIdx (p_3.1:Int).toNat)) ((getK (Cod.key (p_2.2.2.2.2.2.2.1.eraseIdx (p_3.1:Int).toNat)) p_4.2.2).getD []) p_4.2.2)).getD []).length+[p_2.2.2.2.2.2].length)*(64:Nat)≤(140737488355328:Nat)∧Cod.key (p_2.2.2.2.2.2.2.1.eraseIdx (p_3.1:Int).toNat)=Cod.key (p_2.2.2.2.2.2.2.1.eraseIdx (p_3.1:Int).toNat)∧∃ (p':q03×q05),q1l p_4.2.1 p_4.2.2 p_2.2.2.2.2.2 [p_2.2.2.2.2.2.2.1.eraseIdx (p_3.1:Int).toNat] p'.1 p'.2∧(qfp p_2 p_3)∧(q2n e p_2)∧True∧True∧(putK (Cod.key (p_2.2.2.2.2.2.2.1.eraseIdx (p_3.1:Int).toNat)) true p_4.2.1=p'.1∧p=p∧putK (Cod.key p_2.2.2.2.2.2.2.1) true p_2.2.2.1=putK (Cod.key p_2.2.2.2.2.2.2.1) true p_2.2.2.1∧Mp.put (fun (x x_1:List UInt8)=>x==x_1) p_2.2.2.2.2.2.1 true p_2.2.2.2.1=Mp.put (fun (x x_1:List UInt8)=>x==x_1) p_2.2.2.2.2.2.1 true p_2.2.2.2.1∧True)∧(q3a book p_2)∧True∧True∧putK (Cod.key (p_2.2.2.2.2.2.2.1.eraseIdx (p_3.1:Int).toNat)) ((getK (Cod.key (p_2.2.2.2.2.2.2.1.eraseIdx (p_3.1:Int).toNat)) (putK (Cod.key (p_2.2.2.2.2.2.2.1.eraseIdx (p_3.1:Int).toNat)) ((getK (Cod.key (p_2.2.2.2.2.2.2.1.eraseIdx (p_3.1:Int).toNat)) p_4.2.2).getD []) p_4.2.2)).getD []++[p_2.2.2.2.2.2]) (putK (Cod.key (p_2.2.2.2.2.2.2.1.eraseIdx (p_3.1:Int).toNat)) ((getK (Cod.key (p_2.2.2.2.2.2.2.1.eraseIdx (p_3.1:Int).toNat)) p_4.2.2).getD []) p_4.2.2)=p'.2∧True∧(True∧True∧True∧True)∧True else ∃ (p':q03×q05),q1l p_4.2.1 p_4.2.2 p_2.2.2.2.2.2 [p_2.2.2.2.2.2.2.1.eraseIdx (p_3.1:Int).toNat] p'.1 p'.2∧(qfp p_2 p_3)∧(q2n e p_2)∧True∧True∧(p_4.2.1=p'.1∧p=p∧putK (Cod.key p_2.2.2.2.2.2.2.1) true p_2.2.2.1=putK (Cod.key p_2.2.2.2.2.2.2.1) true p_2.2.2.1∧Mp.put (fun (x x_1:List UInt8)=>x==x_1) p_2.2.2.2.2.2.1 true p_2.2.2.2.1=Mp.put (fun (x x_1:List UInt8)=>x==x_1) p_2.2.2.2.2.2.1 true p_2.2.2.2.1∧True)∧(q3a book p_2)∧True∧True∧p_4.2.2=p'.2∧True∧(True∧True∧True∧True)∧True)∧∀ (p_5:q03×q05),q1l p_4.2.1 p_4.2.2 p_2.2.2.2.2.2 [p_2.2.2.2.2.2.2.1.eraseIdx (p_3.1:Int).toNat] p_5.1 p_5.2→bif (p_3.1:Int)==(0:Int) then (zFit ((p_3.1:Int)+1))∧∃ (p':Nat×q08×q03×q05),(q6x e p' p_2)∧p_2.2.2.2.2.2.2.1.length-p'.1<p_2.2.2.2.2.2.2.1.length-p_3.1∧(qaj p' p_2 p_3)∧(q2n e p_2)∧True∧True∧(qdn p p' p_2 p_5)∧(q3a book p_2)∧True∧True∧p_5.2=p'.2.2.2∧True∧(True∧True∧True∧True)∧True else (zFit ((p_3.1:Int)-1))∧(0≤(p_3.1:Int)-1∧(p_3.1:Int)-1<(p_2.2.2.2.2.2.2.1.length:Int))∧bif p_2.2.2.2.2.2.2.1.getD ((p_3.1:Int)-1).toNat (0:Int)==p_2.2.2.2.2.2.2.1.getD (p_3.1:Int).toNat (0:Int) then (zFit ((p_3.1:Int)+1))∧∃ (p':Nat×q08×q03×q05),(q6x e p' p_2)∧p_2.2.2.2.2.2.2.1.length-p'.1<p_2.2.2.2.2.2.2.1.length-p_3.1∧(qaj p' p_2 p_3)∧(q2n e p_2)∧True∧True∧(qdn p p' p_2 p_5)∧(q3a book p_2)∧True∧True∧p_5.2=p'.2.2.2∧True∧(True∧True∧True∧True)∧True else (zFit ((p_3.1:Int)-1))∧(0≤(p_3.1:Int)-1∧(p_3.1:Int)-1<(p_2.2.2.2.2.2.2.1.length:Int))∧p_2.2.2.2.2.2.2.1.length≤(1000000:Nat)∧(0≤(p_3.1:Int)∧(p_3.1:Int)<(p_2.2.2.2.2.2.2.1.length:Int))∧bif (p_3.1:Int).toNat.beq (p_3.1:Int).toNat then (zFit ((p_3.1:Int)-1))∧(0≤(p_3.1:Int)-1∧(p_3.1:Int)-1<(↑(p_2.2.2.2.2.2.2.1.set (p_3.1:Int).toNat (p_2.2.2.2.2.2.2.1.getD ((p_3.1:Int)-1).toNat (0:Int))).length:Int))∧bif ((p_3.1:Int)-1).toNat.beq ((p_3.1:Int)-1).toNat then True∧bif !(getK (Cod.key ((p_2.2.2.2.2.2.2.1.set (p_3.1:Int).toNat (p_2.2.2.2.2.2.2.1.getD ((p_3.1:Int)-1).toNat (0:Int))).set ((p_3.1:Int)-1).toNat (p_2.2.2.2.2.2.2.1.getD (p_3.1:Int).toNat (0:Int)))) p_5.1).getD false then ((((getK (Cod.key ((p_2.2.2.2.2.2.2.1.set (p_3.1:Int).toNat (p_2.2.2.2.2.2.2.1.getD ((p_3.1:Int)-1).toNat (0:Int))).set ((p_3.1:Int)-1).toNat (p_2.2.2.2.2.2.2.1.getD (p_3.1:Int).toNat (0:Int)))) (putK (Cod.key ((p_2.2.2.2.2.2.2.1.set (p_3.1:Int).toNat (p_2.2.2.2.2.2.2.1.getD ((p_3.1:Int)-1).toNat (0:Int))).set ((p_3.1:Int)-1).toNat (p_2.2.2.2.2.2.2.1.getD (p_3.1:Int).toNat (0:Int)))) ((getK (Cod.key ((p_2.2.2.2.2.2.2.1.set (p_3.1:Int).toNat (p_2.2.2.2.2.2.2.1.getD ((p_3.1:Int)-1).toNat (0:Int))).set ((p_3.1:Int)-1).toNat (p_2.2.2.2.2.2.2.1.getD (p_3.1:Int).toNat (0:Int)))) p_5.2).getD []) p_5.2)).getD []).length+[p_2.2.2.2.2.2].length)*(64:Nat)≤(140737488355328:Nat)∧Cod.key ((p_2.2.2.2.2.2.2.1.set (p_3.1:Int).toNat (p_2.2.2.2.2.2.2.1.getD ((p_3.1:Int)-1).toNat (0:Int))).set ((p_3.1:Int)-1).toNat (p_2.2.2.2.2.2.2.1.getD (p_3.1:Int).toNat (0:Int)))=Cod.key ((p_2.2.2.2.2.2.2.1.set (p_3.1:Int).toNat (p_2.2.2.2.2.2.2.1.getD ((p_3.1:Int)-1).toNat (0:Int))).set ((p_3.1:Int)-1).toNat (p_2.2.2.2.2.2.2.1.getD (p_3.1:Int).toNat (0:Int)))∧(zFit ((p_3.1:Int)+1))∧∃ (p':Nat×q08×q03×q05),(q6x e p' p_2)∧p_2.2.2.2.2.2.2.1.length-p'.1<p_2.2.2.2.2.2.2.1.length-p_3.1∧(qaj p' p_2 p_3)∧(q2n e p_2)∧True∧True∧(qhq p p' p_2 p_3 p_5)∧(q3a book p_2)∧True∧True∧putK (Cod.key ((p_2.2.2.2.2.2.2.1.set (p_3.1:Int).toNat (p_2.2.2.2.2.2.2.1.getD ((p_3.1:Int)-1).toNat (0:Int))).set ((p_3.1:Int)-1).toNat (p_2.2.2.2.2.2.2.1.getD (p_3.1:Int).toNat (0:Int)))) ((getK (Cod.key ((p_2.2.2.2.2.2.2.1.set (p_3.1:Int).toNat (p_2.2.2.2.2.2.2.1.getD ((p_3.1:Int)-1).toNat (0:Int))).set ((p_3.1:Int)-1).toNat (p_2.2.2.2.2.2.2.1.getD (p_3.1:Int).toNat (0:Int)))) (putK (Cod.key ((p_2.2.2.2.2.2.2.1.set (p_3.1:Int).toNat (p_2.2.2.2.2.2.2.1.getD ((p_3.1:Int)-1).toNat (0:Int))).set ((p_3.1:Int)-1).toNat (p_2.2.2.2.2.2.2.1.getD (p_3.1:Int).toNat (0:Int)))) ((getK (Cod.key ((p_2.2.2.2.2.2.2.1.set (p_3.1:Int).toNat (p_2.2.2.2.2.2.2.1.getD ((p_3.1:Int)-1).toNat (0:Int))).set ((p_3.1:Int)-1).toNat (p_2.2.2.2.2.2.2.1.getD (p_3.1:Int).toNat (0:Int)))) p_5.2).getD []) p_5.2)).getD []++[p_2.2.2.2.2.2]) (putK (Cod.key ((p_2.2.2.2.2.2.2.1.set (p_3.1:Int).toNat (p_2.2.2.2.2.2.2.1.getD ((p_3.1:Int)-1).toNat (0:Int))).set ((p_3.1:Int)-1).toNat (p_2.2.2.2.2.2.2.1.getD (p_3.1:Int).toNat (0:Int)))) ((getK (Cod.key ((p_2.2.2.2.2.2.2.1.set (p_3.1:Int).toNat (p_2.2.2.2.2.2.2.1.getD ((p_3.1:Int)-1).toNat (0:Int))).set ((p_3.1:Int)-1).toNat (p_2.2.2.2.2.2.2.1.getD (p_3.1:Int).toNat (0:Int)))) p_5.2).getD []) p_5.2)=p'.2.2.2∧True∧(True∧True∧True∧True)∧True)∧(((getK (Cod.key ((p_2.2.2.2.2.2.2.1.set (p_3.1:Int).toNat (p_2.2.2.2.2.2.2.1.getD ((p_3.1:Int)-1).toNat (0:Int))).set ((p_3.1:Int)-1).toNat (p_2.2.2.2.2.2.2.1.getD (p_3.1:Int).toNat (0:Int)))) (putK (Cod.key ((p_2.2.2.2.2.2.2.1.set (p_3.1:Int).toNat (p_2.2.2.2.2.2.2.1.getD ((p_3.1:Int)-1).toNat (0:Int))).set ((p_3.1:Int)-1).toNat (p_2.2.2.2.2.2.2.1.getD (p_3.1:Int).toNat (0:Int)))) ((getK (Cod.key ((p_2.2.2.2.2.2.2.1.set (p_3.1:Int).toNat (p_2.2.2.2.2.2.2.1.getD ((p_3.1:Int)-1).toNat (0:Int))).set ((p_3.1:Int)-1).toNat (p_2.2.2.2.2.2.2.1.getD (p_3.1:Int).toNat (0:Int)))) p_5.2).getD []) p_5.2)).getD []).length+[p_2.2.2.2.2.2].length)*(64:Nat)≤(140737488355328:Nat)∧Cod.key ((p_2.2.2.2.2.2.2.1.set (p_3.1:Int).toNat (p_2.2.2.2.2.2.2.1.getD ((p_3.1:Int)-1).toNat (0:Int))).set ((p_3.1:Int)-1).toNat (p_2.2.2.2.2.2.2.1.getD (p_3.1:Int).toNat (0:Int)))=Cod.key ((p_2.2.2.2.2.2.2.1.set (p_3.1:Int).toNat (p_2.2.2.2.2.2.2.1.getD ((p_3.1:Int)-1).toNat (0:Int))).set ((p_3.1:Int)-1).toNat (p_2.2.2.2.2.2.2.1.getD (p_3.1:Int).toNat (0:Int)))∧(zFit ((p_3.1:Int)+1))∧∃ (p':Nat×q08×q03×q05),(q6x e p' p_2)∧p_2.2.2.2.2.2.2.1.length-p'.1<p_2.2.2.2.2.2.2.1.length-p_3.1∧(qaj p' p_2 p_3)∧(q2n e p_2)∧True∧True∧(qhq p p' p_2 p_3 p_5)∧(q3a book p_2)∧True∧True∧putK (Cod.key ((p_2.2.2.2.2.2.2.1.set (p_3.1:Int).toNat (p_2.2.2.2.2.2.2.1.getD ((p_3.1:Int)-1).toNat (0:Int))).set ((p_3.1:Int)-1).toNat (p_2.2.2.2.2.2.2.1.getD (p_3.1:Int).toNat (0:Int)))) ((getK (Cod.key ((p_2.2.2.2.2.2.2.1.set (p_3.1:Int).toNat (p_2.2.2.2.2.2.2.1.getD ((p_3.1:Int)-1).toNat (0:Int))).set ((p_3.1:Int)-1).toNat (p_2.2.2.2.2.2.2.1.getD (p_3.1:Int).toNat (0:Int)))) (putK (Cod.key ((p_2.2.2.2.2.2.2.1.set (p_3.1:Int).toNat (p_2.2.2.2.2.2.2.1.getD ((p_3.1:Int)-1).toNat (0:Int))).set ((p_3.1:Int)-1).toNat (p_2.2.2.2.2.2.2.1.getD (p_3.1:Int).toNat (0:Int)))) ((getK (Cod.key ((p_2.2.2.2.2.2.2.1.set (p_3.1:Int).toNat (p_2.2.2.2.2.2.2.1.getD ((p_3.1:Int)-1).toNat (0:Int))).set ((p_3.1:Int)-1).toNat (p_2.2.2.2.2.2.2.1.getD (p_3.1:Int).toNat (0:Int)))) p_5.2).getD []) p_5.2)).getD []++[p_2.2.2.2.2.2]) (putK (Cod.key ((p_2.2.2.2.2.2.2.1.set (p_3.1:Int).toNat (p_2.2.2.2.2.2.2.1.getD ((p_3.1:Int)-1).toNat (0:Int))).set ((p_3.1:Int)-1).toNat (p_2.2.2.2.2.2.2.1.getD (p_3.1:Int).toNat (0:Int)))) ((getK (Cod.key ((p_2.2.2.2.2.2.2.1.set (p_3.1:Int).toNat (p_2.2.2.2.2.2.2.1.getD ((p_3.1:Int)-1).toNat (0:Int))).set ((p_3.1:Int)-1).toNat (p_2.2.2.2.2.2.2.1.getD (p_3.1:Int).toNat (0:Int)))) p_5.2).getD []) p_5.2)=p'.2.2.2∧True∧(True∧True∧True∧True)∧True else (zFit ((p_3.1:Int)+1))∧∃ (p':Nat×q08×q03×q05),(q6x e p' p_2)∧p_2.2.2.2.2.2.2.1.length-p'.1<p_2.2.2.2.2.2.2.1.length-p_3.1∧(qaj p' p_2 p_3)∧(q2n e p_2)∧True∧True∧(qdn p p' p_2 p_5)∧(q3a book p_2)∧True∧True∧p_5.2=p'.2.2.2∧True∧(True∧True∧True∧True)∧True else False else False else (zFit ((p_2.1:Int)+1))∧∃ (p':Nat×q08×q03×q0m×q05),(p'.1≤List.length book∧q1a e p'.2.1∧q3h (List.take p'.1 book) p'.2.2.1∧q3q (List.take p'.1 book) p'.2.2.2.1∧q3n e (List.take p'.1 book) p'.2.2.2.2∧e.shelf [] (List.take p'.1 book)=true)∧List.length book-p'.1<List.length book-p.1∧((p_2.1:Int)+1=(p'.1:Int)∧True∧True∧True∧book=book∧(↑(List.length book):Int)=(↑(List.length book):Int)∧True)∧(qhd e)∧True∧True∧(p_3.2.1=p'.2.1∧putK (Cod.key p_2.2.2.2.2.2.2.1) true p_2.2.2.1=p'.2.2.1∧Mp.put (fun (x x_1:List UInt8)=>x==x_1) p_2.2.2.2.2.2.1 true p_2.2.2.2.1=p'.2.2.2.1∧True)∧True∧True∧True∧p_3.2.2.2=p'.2.2.2.2∧True else true=e.proper book:=by
 delta q2m q2n qci q3a q3r q6c zCoG0_6 zCoG0_7 qaj qfp q6x q8p qhr qht qhl qhu qi0 q3v qdn q6u q6s qhq qhx qan qcv qhy qds qhd qhv zFit
 obtain ⟨hW,hC,hB1,hB2⟩:=h
 have hW:q13 (e.lang,e.ws):=hW
 have hC:q0u e.c:=hC
 have hB1:book.length≤1000000:=hB1
 simp only [true_and,and_true,eq_self,and_self,Nat.beq_refl,Bool.and_self,Bool.true_and,cond_true,Int.toNat_natCast,forall_const,exists_const,true_implies]
 have pr:e.proper book=(e.ok&&(decide ((book.length:Int)≤20000)&&e.shelf [] book)):=rfl
 have ok:e.ok=(Snd.q0n e.lang e.ws&&Snd.q0x e.c):=rfl
 refine ⟨?_,?_⟩
 ·clear pr
  generalize Snd.q0n e.lang e.ws=v at *
  generalize Snd.q0x e.c=q at *
  cases v <;> cases q <;> simp [hW,hC]
 rw [← ok]
 refine bifP (fun hok=>?_) fun hok=>bifP (fun h2=>?_) fun h2=>?_
 ·rw [pr,show e.ok=false from (by cases hh:e.ok <;> simp_all),Bool.false_and]
 ·rw [pr,decide_eq_false (by have:=of_decide_eq_true h2; omega),Bool.false_and,Bool.and_false]
 have hok:e.ok=true:=by
  cases hh:e.ok
  ·rw [hh] at hok; cases hok
  ·rfl
 have hlen:book.length≤20000:=by have:=of_decide_eq_false h2; omega
 have pr:e.proper book=e.shelf [] book:=by rw [pr,hok,decide_eq_true (by omega)]; simp
 rw [pr]
 refine ⟨⟨(0,[],[],[],[]),⟨Nat.zero_le _,nearOk_nil e,codes_nil,doors_nil,mist_nil e,rfl⟩,by and_intros <;> rfl⟩,?_⟩
 rintro ⟨i,nr,cm,dm,mm⟩ ⟨hi,hn,hc,hd,hm,hs⟩
 dsimp only at *
 refine bifP (fun hil=>?_) fun hil=>?_
 rotate_left
 ·rw [← List.take_of_length_le (l:=book) (i:=i) (by have:=of_decide_eq_false hil; omega)]
  exact hs.symm
 have hil:i<book.length:=by have:=of_decide_eq_true hil; omega
 refine ⟨⟨⟨by omega,by omega⟩,⟨(i,nr,cm,dm,mm,book.getD i Cod.noG),⟨rfl,hil,rfl,hn,hc,hd,hm,hs⟩,by and_intros <;> rfl⟩⟩,?_⟩
 rintro ⟨i,nr,cm,dm,mm,g⟩ ⟨hii,hil,hg,hn,hc,hd,hm,hs⟩
 dsimp only at *
 obtain ⟨hg1,hg2⟩:g.1.length≤1000∧g.2.1.length≤1000000:=hB2 g (by rw [hg]; exact Snd.q1r book _ i hil)
 have no:e.fits (book.take i) g=false→false=e.shelf [] book:=fun h=>(shelf_no hil (by rw [hg] at h; exact h)).symm
 have fitsE:e.fits (book.take i) g=(Lx.q2j g.1&&(!((getS g.1 dm).getD false)&&(Cod.q4r g&&(Cod.q2a e.lang e.ws g.2.1&&e.takes (book.take i) g)))):=by
  rw [hd g.1]; rfl
 refine ⟨⟨hg1,bifP (fun hnm=>no ?_) fun hnm=>bifP (fun hdo=>no ?_) fun hdo=>bifP (fun hpl=>no ?_) fun hpl=>⟨⟨hW,hg2⟩,bifP (fun hcd=>no ?_) fun hcd=>?_⟩⟩,?_⟩
 ·rw [fitsE,qa0 hnm]; rfl
 ·rw [fitsE,show (getS g.1 dm).getD false=true from hdo]; simp
 ·rw [fitsE,qa0 hpl]; simp
 ·rw [fitsE,qa0 hcd]; simp
 ·have hcd:=q93 hcd
  obtain ⟨⟨hg3,hg5⟩,hin⟩:=code_in hcd
  have takesE:e.takes (book.take i) g=qap e cm mm g:=takes_eq hc hm (shelf_len hs) hg5
  rw [takesE] at fitsE
  have hmm:∀ k,((getK k mm).getD []).length≤1000000:=fun k=>by
   have:=mist_le hm k
   rw [List.length_take] at this
   omega
  refine bifP (fun hk1=>no ?_) fun hk1=>bifP (fun hk2=>no ?_) fun hk2=>?_
  ·rw [fitsE]; unfold qap; rw [hk1]; simp
  ·have hk2:=of_decide_eq_true hk2
   rw [fitsE]; unfold qap
   rw [show (((getK (Cod.key g.2.1) mm).getD []).length==0)=false from beq_eq_false_iff_ne.2 (by omega)]; simp
  have hk2:(((getK (Cod.key g.2.1) mm).getD []).length==0)=true:=beq_iff_eq.2 (by have:=of_decide_eq_false hk2; omega)
  have noX:∀ x∈e.miss g.2.1,q3e cm mm g x=false→false=e.shelf [] book:=fun x hx hgx=>by
   apply no
   rw [fitsE]; unfold qap
   rw [show (e.miss g.2.1).all (q3e cm mm g)=false from List.all_eq_false.2 ⟨x,hx,by rw [hgx]; decide⟩]; simp
  refine ⟨⟨(0,nr,cm,mm),⟨Nat.zero_le _,hn,rfl⟩,by and_intros <;> rfl⟩,?_⟩
  rintro ⟨k,nr,_,_⟩ ⟨hkl,hn,hgood⟩
  dsimp only at *
  refine bifP (fun hkl=>?_) fun hkl=>?_
  rotate_left
  ·have hkl:=of_decide_eq_false hkl
   refine ⟨(i,nr,cm,dm,mm,g),⟨rfl,hil,hg,hn,hc,hd,hm,?_⟩,by and_intros <;> rfl⟩
   rw [qd2 hil,hs,← Cod.noG,← hg,fitsE]
   unfold qap
   have hkk:k=g.2.1.length:=by omega
   rw [q93 hnm,show (getS g.1 dm).getD false=false from hdo,q93 hpl,hcd,hk1,hk2,show e.miss g.2.1=e.q18 g.2.1 k 0 by rw [hkk]; rfl,hgood]; rfl
  have hkl:k<g.2.1.length:=by have:=of_decide_eq_true hkl; omega
  obtain ⟨hw0,hw1⟩:=hin k hkl
  refine ⟨⟨by omega,by omega⟩,qif hn hW hC hw0 hw1,?_⟩
  intro nr hn
  have hnl:(e.near (g.2.1.getD k 0)).length≤1000000:=Nat.le_trans (qhg e _) hW.2.1
  have next:(e.q3w g.2.1 k).all (q3e cm mm g)=true→(e.q18 g.2.1 (k+1) 0).all (q3e cm mm g)=true:=fun h=>by
   rw [qee,List.all_append,hgood,h]; rfl
  refine ⟨⟨(0,cm,mm),⟨Nat.zero_le _,rfl⟩,by and_intros <;> rfl⟩,?_⟩
  rintro ⟨q,_,_⟩ ⟨hql,hpart⟩
  dsimp only at *
  refine bifP (fun hq=>?_) fun hq=>?_
  ·have hq:q<(e.near (g.2.1.getD k 0)).length:=by have:=of_decide_eq_true hq; omega
   refine ⟨⟨by omega,by omega⟩,bifP (fun hne=>?_) fun hne=>?_⟩
   ·refine ⟨by omega,⟨by omega,by omega⟩,?_⟩
    refine qhh (hmm _) (noX _ (near_all hq hkl hne)) fun hgx=>?_
    refine ⟨⟨by omega,by omega⟩,(q+1,cm,mm),⟨by omega,?_⟩,by omega,by and_intros <;> omega⟩
    rw [q9g hq,if_pos hne,List.all_append,hpart,List.all_cons,hgx]; rfl
   ·refine ⟨⟨by omega,by omega⟩,(q+1,cm,mm),⟨by omega,?_⟩,by omega,by and_intros <;> omega⟩
    rw [q9g hq,if_neg (by rw [hne]; decide),List.append_nil,hpart]
  have hq:=of_decide_eq_false hq
  have full:=qf7 (e:=e) (code:=g.2.1) (i:=k) (k:=q) (by omega)
  simp only [show ((k:Int)-1).toNat=k-1 by omega]
  refine ⟨⟨by omega,⟨by omega,by omega⟩,⟨by omega,by omega⟩,qhh (hmm _) (noX _ (erase_mem hkl)) fun h=>h⟩,fun hge=>?_⟩
  refine bifP (fun h0=>⟨⟨by omega,by omega⟩,(k+1,nr,cm,mm),⟨by omega,hn,next ?_⟩,by omega,by and_intros <;> first | rfl | omega⟩) fun h0=>?_
  ·have h0:k=0:=by have:=beq_iff_eq.1 h0; omega
   rw [full,List.all_append,hpart,List.all_cons,hge,if_pos (.inl h0)]; rfl
  have h0:k≠0:=by have:=beq_eq_false_iff_ne.1 h0; omega
  refine ⟨⟨by omega,by omega⟩,⟨by omega,by omega⟩,bifP (fun h1=>⟨⟨by omega,by omega⟩,(k+1,nr,cm,mm),⟨by omega,hn,next ?_⟩,by omega,by and_intros <;> first | rfl | omega⟩) fun h1=>?_⟩
  ·rw [full,List.all_append,hpart,List.all_cons,hge,if_pos (.inr (beq_iff_eq.1 h1))]; rfl
  have h1:g.2.1.getD (k-1) 0≠g.2.1.getD k 0:=beq_eq_false_iff_ne.1 h1
  refine ⟨⟨by omega,by omega⟩,⟨by omega,by omega⟩,by omega,⟨by omega,by omega⟩,⟨by omega,by omega⟩,⟨by omega,by rw [List.length_set]; omega⟩,?_⟩
  refine qhh (x:=Cod.swapAt g.2.1 k) (hmm _) (noX _ (swap_mem hkl h0 h1)) fun hgx=>⟨⟨by omega,by omega⟩,(k+1,nr,cm,mm),⟨by omega,hn,next ?_⟩,by omega,by and_intros <;> first | rfl | omega⟩
  rw [full,List.all_append,hpart,List.all_cons,hge,if_neg (fun h=>h.elim h0 h1),List.all_cons,hgx]; rfl
 rintro ⟨i,nr,cm,dm,mm,g⟩ ⟨hii,hil,hg,hn,hc,hd,hm,hs⟩
 dsimp only at *
 have hfit:e.fits (book.take i) g=true:=by
  have:=hs
  rw [qd2 hil,Bool.and_eq_true] at this
  rw [hg]; exact this.2
 have hcd:Cod.q2a e.lang e.ws g.2.1=true:=by
  have:=(Cod.fits_iff.1 hfit).1
  unfold Cod.okG at this
  simp only [Bool.and_eq_true] at this
  exact this.2.2
 obtain ⟨⟨hg3,hg5⟩,hin⟩:=code_in hcd
 have hdone:(book.take i).length≤20000:=by rw [List.length_take]; omega
 refine ⟨⟨(0,nr,[],mm),⟨Nat.zero_le _,hn,qi8 [] mm g⟩,by and_intros <;> rfl⟩,?_⟩
 rintro ⟨k,nr,s,m⟩ ⟨hkl,hn,hrel⟩
 dsimp only at *
 refine bifP (fun hkl=>?_) fun hkl=>?_
 rotate_left
 ·have hkl:=of_decide_eq_false hkl
  have tk:book.take (i+1)=book.take i++[g]:=by rw [hg]; exact Snd.q21 book Cod.noG i hil
  refine ⟨⟨by omega,by omega⟩,(i+1,nr,putK (Cod.key g.2.1) true cm,Mp.put (fun x x_1=>x==x_1) g.1 true dm,m),⟨by omega,hn,?_,?_,?_,hs⟩,by omega,by and_intros <;> first | rfl | omega⟩
  ·rw [tk]; exact codes_put hc g
  ·rw [tk]; exact doors_put hd g
  ·rw [tk]
   have hkk:k=g.2.1.length:=by omega
   rw [hkk] at hrel
   exact mist_put hm hrel
 have hkl:k<g.2.1.length:=by have:=of_decide_eq_true hkl; omega
 obtain ⟨hw0,hw1⟩:=hin k hkl
 refine ⟨⟨by omega,by omega⟩,qif hn hW hC hw0 hw1,?_⟩
 intro nr hn
 have hnl:(e.near (g.2.1.getD k 0)).length≤1000000:=Nat.le_trans (qhg e _) hW.2.1
 have next:∀ {s' m'},q1l s m g (e.q3w g.2.1 k) s' m'→q1l [] mm g (e.q18 g.2.1 (k+1) 0) s' m':=fun h=>by
  rw [qee]; exact q2t hrel h
 refine ⟨⟨(0,s,m),⟨Nat.zero_le _,qi8 s m g⟩,by and_intros <;> rfl⟩,?_⟩
 rintro ⟨q,s1,m1⟩ ⟨hql,hpart⟩
 dsimp only at *
 have room:∀ k,(((getK k (putK k ((getK k m1).getD []) m1)).getD []).length+[g].length)*64≤140737488355328:=put_room hm hdone (q2t hrel hpart)
 refine bifP (fun hq=>?_) fun hq=>?_
 ·have hq:q<(e.near (g.2.1.getD k 0)).length:=by have:=of_decide_eq_true hq; omega
  refine ⟨⟨by omega,by omega⟩,bifP (fun hne=>?_) fun hne=>?_⟩
  ·refine ⟨by omega,⟨by omega,by omega⟩,bifP (fun hx=>?_) fun hx=>?_⟩
   ·refine ⟨room _,⟨by omega,by omega⟩,(q+1,_,_),⟨by omega,?_⟩,by omega,by and_intros <;> first | rfl | omega⟩
    rw [q9g hq,if_pos hne]
    exact q2t hpart (qbk (qa0 hx))
   ·refine ⟨⟨by omega,by omega⟩,(q+1,s1,m1),⟨by omega,?_⟩,by omega,by and_intros <;> first | rfl | omega⟩
    rw [q9g hq,if_pos hne]
    exact q2t hpart (qbp (q93 hx))
  ·refine ⟨⟨by omega,by omega⟩,(q+1,s1,m1),⟨by omega,?_⟩,by omega,by and_intros <;> first | rfl | omega⟩
   rw [q9g hq,if_neg (by rw [hne]; decide),List.append_nil]; exact hpart
 have hq:=of_decide_eq_false hq
 have full:=qf7 (e:=e) (code:=g.2.1) (i:=k) (k:=q) (by omega)
 simp only [show ((k:Int)-1).toNat=k-1 by omega]
 refine ⟨⟨by omega,⟨by omega,by omega⟩,⟨by omega,by omega⟩,bifP (fun hx=>⟨room _,(_,_),qbk (qa0 hx),by and_intros <;> rfl⟩) fun hx=>⟨(s1,m1),qbp (q93 hx),by and_intros <;> rfl⟩⟩,?_⟩
 rintro ⟨s2,m2⟩ hr2
 dsimp only at *
 have room2:∀ k,(((getK k (putK k ((getK k m2).getD []) m2)).getD []).length+[g].length)*64≤140737488355328:=put_room hm hdone (q2t (q2t hrel hpart) hr2)
 have fin1:(k=0∨g.2.1.getD (k-1) 0=g.2.1.getD k 0)→q1l s m g (e.q3w g.2.1 k) s2 m2:=fun h=>by
  rw [full,if_pos h]; exact q2t hpart hr2
 refine bifP (fun h0=>⟨⟨by omega,by omega⟩,(k+1,nr,s2,m2),⟨by omega,hn,next (fin1 (.inl (by have:=beq_iff_eq.1 h0; omega)))⟩,by omega,by and_intros <;> first | rfl | omega⟩) fun h0=>?_
 have h0:k≠0:=by have:=beq_eq_false_iff_ne.1 h0; omega
 refine ⟨⟨by omega,by omega⟩,⟨by omega,by omega⟩,bifP (fun h1=>⟨⟨by omega,by omega⟩,(k+1,nr,s2,m2),⟨by omega,hn,next (fin1 (.inr (beq_iff_eq.1 h1)))⟩,by omega,by and_intros <;> first | rfl | omega⟩) fun h1=>?_⟩
 have h1:g.2.1.getD (k-1) 0≠g.2.1.getD k 0:=beq_eq_false_iff_ne.1 h1
 have fin2:∀ {s' m'},q1l s2 m2 g [Cod.swapAt g.2.1 k] s' m'→q1l s m g (e.q3w g.2.1 k) s' m':=fun h=>by
  rw [full,if_neg (fun h=>h.elim h0 h1)]; exact q2t hpart (q2t (xs:=[g.2.1.eraseIdx k]) (ys:=[Cod.swapAt g.2.1 k]) hr2 h)
 refine ⟨⟨by omega,by omega⟩,⟨by omega,by omega⟩,by omega,⟨by omega,by omega⟩,⟨by omega,by omega⟩,⟨by omega,by rw [List.length_set]; omega⟩,bifP (fun hx=>?_) fun hx=>?_⟩
 ·exact ⟨room2 _,⟨by omega,by omega⟩,(k+1,nr,_,_),⟨by omega,hn,next (fin2 (qbk (x:=Cod.swapAt g.2.1 k) (qa0 hx)))⟩,by omega,by and_intros <;> first | rfl | omega⟩
 ·exact ⟨⟨by omega,by omega⟩,(k+1,nr,s2,m2),⟨by omega,hn,next (fin2 (qbp (x:=Cod.swapAt g.2.1 k) (q93 hx)))⟩,by omega,by and_intros <;> first | rfl | omega⟩
end Go.Proofs.YtfecgebhoondjaaGreatDoor
set_option linter.unusedVariables false
namespace Go.Proofs.YtfecgebhoondjaaGreatDoor
open Go.RowKit
open R
theorem kitCo_ok:kitCo.Ok Tryz.prog where
 cons:=all_cons name_holds (all_cons placed_holds (all_cons qen (all_cons (show cKey.lent.Holds Tryz.prog from key_holds) (all_cons qbl (all_cons proper_holds (all_cons near_holds (all_cons nearG_holds all_nil)))))))
 ns:=all_cons clone_holds all_nil
 os:=all_cons delete_holds all_nil
 fcs:=all_nil
 rcs:=all_nil
 inls:=q0g.more Tryz.func64 (by kernel_rfl) (by kernel_rfl) (q0g.more Tryz.func57 (by kernel_rfl) (by kernel_rfl) (q0g.more Tryz.func76 (by kernel_rfl) (by kernel_rfl) (q0g.more Tryz.func109 (by kernel_rfl) (by kernel_rfl)
  (q0g.more Tryz.func66 (by kernel_rfl) (by kernel_rfl) (q0g.more Tryz.func117 (by kernel_rfl) (by kernel_rfl) (q0g.more Tryz.func118 (by kernel_rfl) (by kernel_rfl) (q0g.more Tryz.func120 (by kernel_rfl) (by kernel_rfl)
  (q0g.more Tryz.func127 (by kernel_rfl) (by kernel_rfl) (q0g.more Tryz.func74 (by kernel_rfl) (by kernel_rfl) (q0g.more Tryz.func108 (by kernel_rfl) (by kernel_rfl) q0g.nil))))))))))
set_option maxRecDepth 100000000 in
theorem q9q:qao.Holds Tryz.prog:=by
 refine holdsX (T:=kitCo) (fun p=>anCo upP (frT 14000) (frP 14000) ⟨p.1.1,p.1.2,p.2.1⟩ p.2.2) Tryz.func22 (by kernel_rfl) (by kernel_rfl) mixed (by kernel_rfl) kitCo_ok (fun _=>[]) fun p hp=>?_
 obtain ⟨⟨lang,ws⟩,c,book⟩:=p
 refine cast ?_ (proper_vc ⟨lang,ws,c⟩ book hp)
 kernel_rfl
end Go.Proofs.YtfecgebhoondjaaGreatDoor
set_option linter.unusedVariables false
namespace Go.Proofs.YtfecgebhoondjaaGreatDoor
open Go.RowKit
open R
def q5k (l:WlP) (c:CfP) (book:q0f) (most:Int):Bool:=q6p l&&(q6b c&&(decide (l.2.length≤8)&&(decide (c.length≤10)&&(decide ((book.length:Int)≤most)&&book.all fun g=>decide (g.2.1.length≤8)&&decide (g.1.length≤60)))))
def cFew41:Con:=.of 49 [ckWl,ckCf,q7p,ckInt] [q37] (fun p=>p.2.2.2≤1000) (fun p=>q5k p.1 p.2.1 p.2.2.1 p.2.2.2)
def anFew41 (book:q0f):List (Nat×Ann) :=
 [ann 0 Nat [2] (fun k=>[(9,R.int .i64 k)]) (fun k=>k≤book.length∧(book.take k).all (fun g=>decide (g.2.1.length≤8)&&decide (g.1.length≤60))=true) (fun k=>book.length-k)]
end Go.Proofs.YtfecgebhoondjaaGreatDoor
set_option linter.unusedVariables false
namespace Go.Proofs.YtfecgebhoondjaaGreatDoor
open Go.RowKit
open R
set_option maxRecDepth 100000 in
theorem few41_vc (lang:List UInt8) (ws:List (List UInt8)) (c:CfP) (book:q0f) (most:Int) (h:most≤1000) :
  True∧bif !q6p (lang,ws) then false=q5k (lang,ws) c book most else True∧bif !q6b c then false=q5k (lang,ws) c book most else bif decide ((8:Int)<(ws.length:Int))
  then false=q5k (lang,ws) c book most else bif decide ((10:Int)<(↑(List.length c):Int)) then false=q5k (lang,ws) c book most else bif decide (most<(↑(List.length book) :
  Int)) then false=q5k (lang,ws) c book most else (∃ (p':Nat),(p'≤List.length book∧((List.take p' book).all fun (g:Cod.Giv)=>decide (g.2.1.length≤(8:Nat))&&decide
  (List.length g.1≤(60:Nat)))=true)∧((0:Int)=(p':Int)∧book=book∧True)∧((lang=lang∧ws=ws∧True)∧True)∧True∧True∧True∧True∧True∧True∧True∧True) ∧
  ∀ (p:Nat),p≤List.length book∧((List.take p book).all fun (g:Cod.Giv)=>decide (g.2.1.length≤(8:Nat))&&decide (List.length g.1≤(60:Nat)))=true→bif decide ((p:Int) <
  (↑(List.length book):Int)) then ((0:Int)≤(p:Int)∧(p:Int)<(↑(List.length book):Int))∧bif decide ((8:Int)<(↑(List.getD book (p:Int).toNat ([],[],false,(0:Int),
  (0:Int))).2.1.length:Int)) then false=q5k (lang,ws) c book most else ((0:Int)≤(p:Int)∧(p:Int)<(↑(List.length book):Int))∧bif decide ((60:Int)<(↑(List.getD book
  (p:Int).toNat ([],[],false,(0:Int),(0:Int))).1.length:Int)) then false=q5k (lang,ws) c book most else ((-9223372036854775808:Int)≤(p:Int)+(1:Int)∧(p:Int) +
  (1:Int)≤(9223372036854775807:Int))∧∃ (p':Nat),(p'≤List.length book∧((List.take p' book).all fun (g:Cod.Giv)=>decide (g.2.1.length≤(8:Nat))&&decide (List.length g.1 ≤
  (60:Nat)))=true)∧List.length book-p'<List.length book-p∧((p:Int)+(1:Int)=(p':Int)∧book=book∧True)∧((lang=lang∧ws=ws∧True)∧True)∧True∧True ∧
  True∧True∧True∧True∧True∧True else true=q5k (lang,ws) c book most
  := by
 simp only [true_and,and_true,eq_self]
 have e:q5k (lang,ws) c book most=(q6p (lang,ws)&&(q6b c&&(decide (ws.length≤8)&&(decide (List.length c≤10)&&(decide ((List.length book:Int)≤most)&&book.all fun g=>decide (g.2.1.length≤8)&&decide (g.1.length≤60)))))):=rfl
 rw [e]
 refine bifP (fun h1=>?_) fun h1=>bifP (fun h2=>?_) fun h2=>bifP (fun h3=>?_) fun h3=>bifP (fun h4=>?_) fun h4=>bifP (fun h5=>?_) fun h5=>?_
 ·rw [qa0 h1]; rfl
 ·rw [qa0 h2]; simp
 ·rw [decide_eq_false (p:=ws.length≤8) (by have:=of_decide_eq_true h3; omega)]; simp
 ·rw [decide_eq_false (p:=List.length c≤10) (by have:=of_decide_eq_true h4; omega)]; simp
 ·rw [decide_eq_false (p:=(List.length book:Int)≤most) (by have:=of_decide_eq_true h5; omega)]; simp
 have h5:=of_decide_eq_false h5
 rw [q93 h1,q93 h2,decide_eq_true (p:=ws.length≤8) (by have:=of_decide_eq_false h3; omega),decide_eq_true (p:=List.length c≤10) (by have:=of_decide_eq_false h4; omega),decide_eq_true (p:=(List.length book:Int)≤most) (by omega)]
 simp only [Bool.true_and]
 refine ⟨⟨0,⟨Nat.zero_le _,rfl⟩,rfl⟩,?_⟩
 rintro p ⟨hp,ht⟩
 have hti:((p:Int).toNat)=p:=rfl
 simp only [hti]
 refine bifP (fun hb=>?_) fun hb=>?_
 ·have hlt:p<book.length:=by have:=of_decide_eq_true hb; omega
  refine ⟨⟨by omega,by omega⟩,bifP (fun h8=>?_) fun h8=>⟨⟨by omega,by omega⟩,bifP (fun h60=>?_) fun h60=>⟨⟨by omega,by omega⟩,p+1,⟨by omega,?_⟩,by omega,by omega⟩⟩⟩
  ·rw [Snd.q7x book ([],[],false,0,0) _ p hlt]
   rw [decide_eq_false (by have:=of_decide_eq_true h8; omega)]; rfl
  ·rw [Snd.q7x book ([],[],false,0,0) _ p hlt]
   rw [decide_eq_false (p:=List.length (List.getD book p ([],[],false,0,0)).1≤60) (by have:=of_decide_eq_true h60; omega),Bool.and_false]
  ·rw [Snd.q4i book ([],[],false,0,0) _ p hlt,ht,Bool.true_and,Bool.and_eq_true,decide_eq_true_eq,decide_eq_true_eq]
   exact ⟨by have:=of_decide_eq_false h8; omega,by have:=of_decide_eq_false h60; omega⟩
 ·have hle:book.length≤p:=by have:=of_decide_eq_false hb; omega
  rw [← ht,List.take_of_length_le hle]
end Go.Proofs.YtfecgebhoondjaaGreatDoor
set_option linter.unusedVariables false
namespace Go.Proofs.YtfecgebhoondjaaGreatDoor
open Go.RowKit
open R
set_option maxRecDepth 100000 in
theorem few41_holds:cFew41.Holds Tryz.prog:=by
 refine q2x (cons:=[cFewW,cFewC]) Tryz.func49 (by kernel_rfl) (by kernel_rfl) mixed (by kernel_rfl) (all_cons fewW_holds (all_cons fewC_holds all_nil)) (fun p=>anFew41 p.2.2.1) fun p hp=>?_
 obtain ⟨⟨lang,ws⟩,c,book,most⟩:=p
 refine cast ?_ (few41_vc lang ws c book most hp)
 kernel_rfl
end Go.Proofs.YtfecgebhoondjaaGreatDoor
set_option linter.unusedVariables false
namespace Go.Proofs.YtfecgebhoondjaaGreatDoor
open Go.RowKit
open R
abbrev ckErr1:CK:=.one (.int .i64)
def cJoinS:Con:=.of 61 [.one (.sl (.one .str)),q27] [q27] (fun p=>List.length p.1≤1000000∧(Lib.join p.1 p.2).length≤1000000) (fun p=>Lib.join p.1 p.2)
theorem joinS_holds:cJoinS.Holds Tryz.prog:=by
 refine ⟨⟨⟨_,Tryz.func61,by kernel_rfl,by kernel_rfl⟩,fun F' hF p r hr=>by injection hF with hF; subst hF; exact hr⟩,fun p vs w S hS hp hvs=>?_⟩
 obtain ⟨xs,sep⟩:=p
 obtain ⟨hp1,hp2⟩:=hp
 have hp1:xs.length≤1000000:=hp1
 have hp2:(Lib.join xs sep).length≤1000000:=hp2
 obtain ⟨v,v2,rfl,hv,hv2⟩:=qi1 hvs
 obtain rfl:v2=.string (bs sep):=hv2
 obtain ⟨A,c,rfl,hc,hrow⟩:=hv
 by_cases h0:xs.length=0
 ·obtain rfl:=List.eq_nil_of_length_eq_zero h0
  refine (Tryz.strings_Join_none A c (bs sep) w).mono ?_
  rintro e w' ⟨rfl,rfl⟩
  exact ⟨Lib.join [] sep,_,rfl,rfl,rfl,Below.refl _ _⟩
 ·obtain ⟨g,off,rfl,hg,_,hcells⟩:=hrow (by show 0<xs.length; omega)
  have hm:(xs.map bs).map (fun x:ByteArray=>x.data.toList)=xs:=by
   rw [List.map_map]
   conv=>rhs; rw [← List.map_id xs]
   apply List.map_congr_left
   intro x _
   exact q1p x
  have hj:=Tryz.strings_Join g off c (xs.map bs) (bs sep) w (fun j x hx=>by
   rw [List.getElem?_map] at hx
   cases hx2:xs[j]? with
   | none=>rw [hx2] at hx; cases hx
   | some y =>
    rw [hx2] at hx
    injection hx with hx
    obtain ⟨u,hu,hr⟩:=hcells j y hx2
    have hr:u=.string (bs y):=hr
    have e:off+j*(Kds.one Kd.str).size=off+j:=by show off+j*1=_; omega
    rw [e] at hu
    rw [hu,hr,← hx]) hg (by rw [List.length_map]; omega) (by rw [List.length_map]; exact hc) (by rw [hm,show (bs sep).data.toList=sep from q1p sep]; omega)
  rw [hm,show (bs sep).data.toList=sep from q1p sep,List.length_map] at hj
  refine hj.mono ?_
  rintro e w' ⟨rfl,hb⟩
  exact ⟨Lib.join xs sep,_,rfl,rfl,rfl,hb⟩
theorem join_cons2 (x y:List UInt8) (r:List (List UInt8)) (sep:List UInt8):Lib.join (x::y::r) sep=x++sep++Lib.join (y::r) sep:=by
 simp [Lib.join,List.intercalate,List.intersperse]
def q5h (ws:List (List UInt8)) (code:List Int):List (List UInt8):=code.map fun i=>ws.getD i.toNat []
theorem qip (ws:List (List UInt8)):∀ code:List Int,Lib.join (q5h ws code) [32]=Cod.qab ws code
 | []=>rfl
 | [i]=>Lib.join_one _ _
 | i::j::r=>by
  show Lib.join (ws.getD i.toNat []::ws.getD j.toNat []::q5h ws r) [32]=_
  rw [join_cons2]
  have ih:=qip ws (j::r)
  show _++_++Lib.join (q5h ws (j::r)) [32]=_
  rw [ih]; rfl
def cText41:Con:=.of 28 [ckWl,ckInts] [q27,ckErr1] (fun p=>q13 p.1∧List.length p.2≤1000000) (fun p=>Cod.q5m p.1.1 p.1.2 p.2)
def strRowC (ss:List (List UInt8)):Row:=⟨9,.one .str,ss⟩
def anText41 (ws:List (List UInt8)) (code:List Int):List (Nat×Ann) :=
 [annX 0 (Nat×List (List UInt8))
    (fun st p=>st.hd { live:=[2,13,14],sav:=[],box:=[2] } [(6,.c (.one (.own 26))),(15,R.int .i64 p.1)] [] [(26,strRowC p.2)] [] none)
    (fun _ p=>p.1≤code.length∧p.2=q5h ws (code.take p.1))
    (fun _ p=>code.length-p.1)]
end Go.Proofs.YtfecgebhoondjaaGreatDoor
set_option linter.unusedVariables false
namespace Go.Proofs.YtfecgebhoondjaaGreatDoor
open Go.RowKit
open R
abbrev kS:Kds:=.one .str
def nCloneS:NCon:={ f:=144,args:=[ckStrs],e:=9,fs:=kS,pre:=fun l _=>List.length l≤1000000,F:=fun l _=>l }
def qhn:OCon:={ f:=143,e:=9,fs:=kS,args:=[ckInt,ckInt],ret:=true,pre:=fun xs p _=>p.2=p.1+1∧0≤p.1∧p.1<(List.length xs:Int),F:=fun xs p _=>List.eraseIdx xs p.1.toNat }
def cEqS:Con:=.of 105 [ckStrs,ckStrs] [q37] (fun p=>List.length p.1≤1000000∧List.length p.2≤1000000) (fun p=>p.1==p.2)
section
variable {κ:Cx} {w:World}
theorem qel {S:Nat→Prop} {l:List (List UInt8)} {A:Option Addr} (hrow:0<l.length→∃ g off,A=some ⟨g,off,none⟩∧g<w.heap.size∧S g∧∀ (i:Nat) (x:List UInt8),l[i]? = some x→kS.Rep w S x g (off+i*kS.size)) (hp:0<l.length) :
  ∃ g off,A=some ⟨g,off,none⟩∧g<w.heap.size∧∀ j,j<(l.map bs).length→w.cell? ⟨g,off+j,none⟩=some (.string ((l.map bs).getD j ByteArray.empty)):=by
 obtain ⟨g,off,e,hg,_,h⟩:=hrow hp
 refine ⟨g,off,e,hg,fun j hj=>?_⟩
 have hj':j<l.length:=by rwa [List.length_map] at hj
 obtain ⟨u,hu,hr⟩:=h j _ (List.getElem?_eq_getElem hj')
 have hr:u=.string (bs l[j]):=hr
 have e:off+j*kS.size=off+j:=by show off+j*1=_; omega
 rw [e] at hu
 rw [hu,hr,List.getD_eq_getElem?_getD,List.getElem?_map,List.getElem?_eq_getElem hj']; rfl
end
theorem map_bs_eq (a b:List (List UInt8)):decide (a.map bs=b.map bs)=(a==b):=by
 by_cases h:a=b
 ·subst h; rw [decide_eq_true rfl]; exact (beq_self_eq_true a).symm
 ·rw [beq_eq_false_iff_ne.2 h]
  exact decide_eq_false fun e=>h ((List.map_inj_right fun x y=>qc9.1).1 e)
theorem qfh:nCloneS.Holds Tryz.prog:=by
 refine ⟨⟨_,Tryz.func144,by kernel_rfl,by kernel_rfl⟩,fun p b vs fvs w S hS hpre hvs hfa=>?_⟩
 have hfa:fvs=[]:=hfa
 subst hfa
 obtain ⟨v,rfl,hv⟩:=q11 hvs
 obtain ⟨A,c,rfl,hc,hrow⟩:=hv
 obtain ⟨p,rfl⟩:∃ q:List (List UInt8),q=p:=⟨p,rfl⟩
 have hpre:p.length≤1000000:=hpre
 have fin:∀ (u:Value) (w':World),w'.ownsRow w.heap.size 9 1 u p.length (p.map fun x=>Value.string (bs x))→Below w.heap.size w w'→Below w.heap.size w w'∧∃ u' cells,Ending.returned u=.returned u'∧w'.ownsRow w.heap.size 9 1 u' p.length cells∧q0d (Cx.of S) w kS p cells:=fun u w' ho hb =>
  ⟨hb,u,_,rfl,ho,q5n (k:=.str) (enc:=fun x=>Value.string (bs x)) p (fun x=>rfl)⟩
 by_cases h0:p.length=0
 ·obtain rfl:=List.eq_nil_of_length_eq_zero h0
  cases A with
  | none =>
   refine (Tryz.slices_Clone_string_nil 0 c w).mono ?_
   rintro e w' ⟨rfl,rfl⟩
   exact fin _ _ (World.ownsRow_nil _ _ _ _) (Below.refl _ _)
  | some ad =>
   refine (Tryz.slices_Clone_string_zero ad c w).mono ?_
   rintro e w' ⟨v',rfl,ho,_,hb⟩
   exact fin _ _ ho hb
 ·obtain ⟨g,off,rfl,hg,hcells⟩:=qel hrow (by omega)
  refine (Tryz.slices_Clone_string g off p.length c (p.map bs) w (by rw [List.length_map]; exact Nat.le_refl _) (by omega) hcells).mono ?_
  rintro e w' ⟨v',rfl,ho,_,hb⟩
  rw [← List.map_take,List.take_length,List.map_map] at ho
  exact fin _ _ ho hb
theorem qjq (l:List (List UInt8)) (i:Nat) (h:i<l.length):(l.take i++l.drop (i+1)++List.replicate (i+1-i) []).take (l.length-(i+1-i))=l.eraseIdx i:=by
 rw [List.eraseIdx_eq_take_drop_succ,List.take_append_of_le_length (by rw [List.length_append,List.length_take,List.length_drop]; omega),List.take_of_length_le (by rw [List.length_append,List.length_take,List.length_drop]; omega)]
theorem qe2:qhn.Holds Tryz.prog:=by
 refine ⟨⟨_,Tryz.func143,by kernel_rfl,by kernel_rfl⟩,fun xs p b v cells vs fvs w n0 S hn0 hS hvS hown hcells hpre hvs hfa _=>?_⟩
 have hfa:fvs=[]:=hfa
 subst hfa
 obtain ⟨⟨i,j⟩,rfl⟩:∃ q:Int×Int,q=p:=⟨p,rfl⟩
 obtain ⟨xs,rfl⟩:∃ q:List (List UInt8),q=xs:=⟨xs,rfl⟩
 have hpre:j=i+1∧0≤i∧i<(xs.length:Int):=hpre
 obtain ⟨rfl,hi0,hil⟩:=hpre
 have hvs2:vs=[.int .i64 i,.int .i64 (i+1)]:=by
  obtain ⟨h1,h2⟩:=hvs
  obtain ⟨u0,e0,r0⟩:=h2 0 _ rfl
  obtain ⟨u1,e1,r1⟩:=h2 1 _ rfl
  have r0:u0=.int .i64 i:=r0
  have r1:u1=.int .i64 (i+1):=r1
  match vs,h1 with
  | [a,b],_ =>
   injection e0 with e0; injection e1 with e1
   rw [e0,e1,r0,r1]
 subst hvs2
 have hcm:cells=xs.map (fun x=>Value.string (bs x)):=qfj (k:=.str) (enc:=fun x=>Value.string (bs x)) (fun p v h=>h) hcells (by have:=hown.1; rw [this]; exact Nat.mul_one _)
 subst hcm
 have hown1:w.ownsRow n0 9 1 v xs.length (xs.map (fun x=>Value.string (bs x))):=hown
 have hnn:v≠.slice none 0 0:=fun e=>by
  rcases hown1.2 with ⟨_,h0⟩ | ⟨g,cap,cur,h,_⟩
  ·rw [h0] at hil; omega
  ·rw [h] at e; cases e
 obtain ⟨g,cap,rfl,hg1,hg2,hc1,hc2,_,hH⟩:=Lib.holds_of_ownsRow hown1 hnn
 obtain ⟨k,rfl⟩:=Int.eq_ofNat_of_zero_le hi0
 have hk:k<xs.length:=by omega
 have hcap:cap≤9223372036854775807:=by unfold maxLen at hc2; omega
 have e1:((k:Int)+1)=((k+1:Nat):Int):=by omega
 rw [e1]
 refine (Tryz.slices_Delete_string g 0 cap k (k+1) xs w hH (by omega) hcap (Nat.le_succ _) (by omega)).mono ?_
 rintro e w' ⟨rfl,q,rfl⟩
 have hrow:=Lib.ownsRow_putRow (q:=q) (k:=xs.length-(k+1-k)) (ys:=xs.take k++xs.drop (k+1)++List.replicate (k+1-k) []) hown1 (by rw [List.length_append,List.length_append,List.length_take,List.length_drop,List.length_replicate]; omega) (by omega)
 rw [qjq xs k hk] at hrow
 refine ⟨?_,_,(xs.eraseIdx k).map (fun x=>Value.string (bs x)),rfl,?_,q5n (k:=.str) (enc:=fun x=>Value.string (bs x)) _ (fun x=>rfl),fun _ g' hg'=>.inl hg',fun h=>by cases h⟩
 ·exact ⟨rfl,rfl,rfl,by simp [Sort.putRow,Sort.mapBlock,Sort.ahead],fun k' hk' hne=>by
   have:g≠k':=fun e=>hne (by rw [← e]; rfl)
   simp [Sort.putRow,Sort.mapBlock,Sort.ahead,Array.getElem?_modify,this]⟩
 ·have hl:(xs.eraseIdx k).length=xs.length-(k+1-k):=by rw [List.length_eraseIdx_of_lt hk]; omega
  show World.ownsRow _ _ _ _ _ (xs.eraseIdx k).length _
  rw [hl]
  exact hrow
theorem eqS_holds:cEqS.Holds Tryz.prog:=by
 refine ⟨⟨⟨_,Tryz.func105,by kernel_rfl,by kernel_rfl⟩,fun F' hF p r hr=>by injection hF with hF; subst hF; exact hr⟩,fun p vs w S hS hp hvs=>?_⟩
 obtain ⟨xs,ys⟩:=p
 obtain ⟨hp1,hp2⟩:=hp
 have hp1:xs.length≤1000000:=hp1
 have hp2:ys.length≤1000000:=hp2
 obtain ⟨v,v2,rfl,hv,hv2⟩:=qi1 hvs
 obtain ⟨A,c,rfl,hc,hrow⟩:=hv
 obtain ⟨B,d,rfl,hd,hrow2⟩:=hv2
 by_cases hnm:xs.length=ys.length
 ·by_cases h0:xs.length=0
  ·have h1:ys.length=0:=by omega
   obtain rfl:=List.eq_nil_of_length_eq_zero h0
   obtain rfl:=List.eq_nil_of_length_eq_zero h1
   refine (Tryz.slices_Equal_string_empty A B c 0 d w (by omega)).mono ?_
   rintro e w' ⟨rfl,rfl⟩
   exact ⟨true,_,rfl,rfl,rfl,Below.refl _ _⟩
  ·obtain ⟨g,off,rfl,_,h1⟩:=qel hrow (by show 0<xs.length; omega)
   obtain ⟨g2,off2,rfl,_,h2⟩:=qel hrow2 (by show 0<ys.length; omega)
   refine (Tryz.slices_Equal_string g off xs.length c g2 off2 ys.length d (xs.map bs) (ys.map bs) w (by rw [List.length_map]; exact Nat.le_refl _) (by rw [List.length_map]; exact Nat.le_refl _) (by omega) (by omega) h1 h2).mono ?_
   rintro e w' ⟨rfl,q,rfl⟩
   rw [List.take_of_length_le (by rw [List.length_map]; exact Nat.le_refl _),List.take_of_length_le (by rw [List.length_map]; exact Nat.le_refl _),map_bs_eq]
   exact ⟨(xs==ys),_,rfl,rfl,rfl,belN (Below.refl _ _) _⟩
 ·refine (Tryz.slices_Equal_string_lens A B xs.length c ys.length d w hnm).mono ?_
  rintro e w' ⟨rfl,rfl⟩
  have hne:(xs==ys)=false:=beq_eq_false_iff_ne.2 fun e=>hnm (by rw [e])
  refine ⟨(xs==ys),.bool false,rfl,rfl,?_,Below.refl _ _⟩
  show Value.bool false=Value.bool (xs==ys)
  rw [hne]
end Go.Proofs.YtfecgebhoondjaaGreatDoor
set_option linter.unusedVariables false
namespace Go.Proofs.YtfecgebhoondjaaGreatDoor
open Go.RowKit
open R
def oddR (r:Int):Bool:=decide (r<97)||decide (122<r)
def cOdd:Con:=.of 101 [.one (.int .i32)] [q37] (fun _=>True) (fun r=>oddR r)
def cIdx1:Con:=.of 194 [q27,q27] [ckInt] (fun p=>p.2=[32]) (fun p=>Lib.indexByte p.1 32)
def cutF (s:List UInt8):List UInt8×List UInt8×Bool:=if 0≤Lib.indexByte s 32 then (s.take (Lib.indexByte s 32).toNat,s.drop ((Lib.indexByte s 32).toNat+1),true) else (s,[],false)
def cCut1:Con:=.of 169 [q27,q27] [q27,q27,q37] (fun p=>List.length p.1≤1000000∧p.2=[32]) (fun p=>cutF p.1)
def cCut:Con:=.of 141 [q27,q27] [q27,q27,q37] (fun p=>List.length p.1≤1000000∧p.2=[32]) (fun p=>cutF p.1)
end Go.Proofs.YtfecgebhoondjaaGreatDoor

/-
  Several texts in one: CoG, CoH, CoGA, CoGL.
-/
import Derived.Test.YtfecgebhoondjaaGreatDoorPO
import Derived.Test.YtfecgebhoondjaaGreatDoorPP
set_option linter.unusedVariables false
namespace Go.Proofs.YtfecgebhoondjaaGreatDoor
open Go.RowKit
open R
abbrev q3h (e:Cod.Ear) (p_1:Nat×q03×q02×q0c×q04×Cod.Giv):Prop :=
 ((True∧True)∧(p_1.2.2.2.2.2.2.1=p_1.2.2.2.2.2.2.1∧True)∧(True∧True)∧(p_1.2.2.2.2.2.1=p_1.2.2.2.2.2.1∧p_1.2.2.2.2.2.2.1=p_1.2.2.2.2.2.2.1∧p_1.2.2.2.2.2.2.2.1=p_1.2.2.2.2.2.2.2.1∧p_1.2.2.2.2.2.2.2.2.1=p_1.2.2.2.2.2.2.2.2.1∧p_1.2.2.2.2.2.2.2.2.2=p_1.2.2.2.2.2.2.2.2.2∧True)∧(false=false∧True)∧(e.lang=e.lang∧e.ws=e.ws∧True∧e.c=e.c∧True)∧(True∧True∧True∧True)∧(e.lang=e.lang∧e.ws=e.ws∧True)∧(p_1.2.2.2.2.2.1=p_1.2.2.2.2.2.1∧p_1.2.2.2.2.2.2.1=p_1.2.2.2.2.2.2.1∧p_1.2.2.2.2.2.2.2.1=p_1.2.2.2.2.2.2.2.1∧p_1.2.2.2.2.2.2.2.2.1=p_1.2.2.2.2.2.2.2.2.1∧p_1.2.2.2.2.2.2.2.2.2=p_1.2.2.2.2.2.2.2.2.2∧True)∧True)
abbrev q3i (e:Cod.Ear) (p_2:Nat×q03×q02×q0c×q04×Cod.Giv):Prop :=
 ((True∧True)∧(p_2.2.2.2.2.2.2.1=p_2.2.2.2.2.2.2.1∧True)∧(True∧True)∧(p_2.2.2.2.2.2.1=p_2.2.2.2.2.2.1∧p_2.2.2.2.2.2.2.1=p_2.2.2.2.2.2.2.1∧p_2.2.2.2.2.2.2.2.1=p_2.2.2.2.2.2.2.2.1∧p_2.2.2.2.2.2.2.2.2.1=p_2.2.2.2.2.2.2.2.2.1∧p_2.2.2.2.2.2.2.2.2.2=p_2.2.2.2.2.2.2.2.2.2∧True)∧(True∧True)∧(e.lang=e.lang∧e.ws=e.ws∧True∧e.c=e.c∧True)∧(True∧True∧True∧True)∧(e.lang=e.lang∧e.ws=e.ws∧True)∧(p_2.2.2.2.2.2.1=p_2.2.2.2.2.2.1∧p_2.2.2.2.2.2.2.1=p_2.2.2.2.2.2.2.1∧p_2.2.2.2.2.2.2.2.1=p_2.2.2.2.2.2.2.2.1∧p_2.2.2.2.2.2.2.2.2.1=p_2.2.2.2.2.2.2.2.2.1∧p_2.2.2.2.2.2.2.2.2.2=p_2.2.2.2.2.2.2.2.2.2∧True)∧True)
abbrev qei (e:Cod.Ear) (p':Nat×q02×q04) (p_2:Nat×q03×q02×q0c×q04×Cod.Giv) (p_3:Nat×q03×q02×q04) (p_4:Nat×q02×q04):Prop :=
 ((p_4.1:Int)+1=(p'.1:Int)∧True∧True∧True∧True∧(p_3.1:Int)=(p_3.1:Int)∧p_2.2.2.2.2.2.2.1.getD (p_3.1:Int).toNat (0:Int)=p_2.2.2.2.2.2.2.1.getD (p_3.1:Int).toNat (0:Int)∧p_2.2.2.2.2.2.2.1=p_2.2.2.2.2.2.2.1∧(p_2.2.2.2.2.2.2.1.length:Int)=(p_2.2.2.2.2.2.2.1.length:Int)∧(p_3.1:Int)=(p_3.1:Int)∧e.near (p_2.2.2.2.2.2.2.1.getD (p_3.1:Int).toNat (0:Int))=e.near (p_2.2.2.2.2.2.2.1.getD (p_3.1:Int).toNat (0:Int))∧(↑(e.near (p_2.2.2.2.2.2.2.1.getD (p_3.1:Int).toNat (0:Int))).length:Int)=(↑(e.near (p_2.2.2.2.2.2.2.1.getD (p_3.1:Int).toNat (0:Int))).length:Int)∧True)
abbrev q44 (book:q0k) (p_2:Nat×q03×q02×q0c×q04×Cod.Giv):Prop :=
 (True∧True∧True∧True∧book=book∧(↑(List.length book):Int)=(↑(List.length book):Int)∧(p_2.1:Int)=(p_2.1:Int)∧True∧True)
abbrev q4m (e:Cod.Ear):Prop :=
 ((e.lang=e.lang∧e.ws=e.ws∧True∧e.c=e.c∧True)∧(e.lang=e.lang∧e.ws=e.ws∧True)∧(e.lang=e.lang∧e.ws=e.ws∧True)∧True)
abbrev q7o (book:q0k) (p_1:Nat×q03×q02×q0c×q04×Cod.Giv):Prop :=
 (True∧True∧True∧True∧True∧book=book∧(↑(List.length book):Int)=(↑(List.length book):Int)∧(p_1.1:Int)=(p_1.1:Int)∧false=false∧True)
abbrev zCoG0_6 (book:q0k) (e:Cod.Ear) (p:Nat×q03×q02×q04) (p_1:Nat×q03×q02×q0c×q04×Cod.Giv) (p_3:Nat×q02×q04):Prop :=
 (True∧True∧True∧false=false∧True∧True∧True∧True∧(p.1:Int)=(p.1:Int)∧p_1.2.2.2.2.2.2.1.getD (p.1:Int).toNat (0:Int)=p_1.2.2.2.2.2.2.1.getD (p.1:Int).toNat (0:Int)∧p_1.2.2.2.2.2.2.1=p_1.2.2.2.2.2.2.1∧(p_1.2.2.2.2.2.2.1.length:Int)=(p_1.2.2.2.2.2.2.1.length:Int)∧(p.1:Int)=(p.1:Int)∧e.near (p_1.2.2.2.2.2.2.1.getD (p.1:Int).toNat (0:Int))=e.near (p_1.2.2.2.2.2.2.1.getD (p.1:Int).toNat (0:Int))∧(↑(e.near (p_1.2.2.2.2.2.2.1.getD (p.1:Int).toNat (0:Int))).length:Int)=(↑(e.near (p_1.2.2.2.2.2.2.1.getD (p.1:Int).toNat (0:Int))).length:Int)∧(p_3.1:Int)=(p_3.1:Int)∧true=true∧True∧True∧True∧True∧True∧book=book∧(↑(List.length book):Int)=(↑(List.length book):Int)∧(p_1.1:Int)=(p_1.1:Int)∧false=false∧True)
abbrev zCoG0_7 (book:q0k) (e:Cod.Ear) (p:Nat×q03×q02×q04) (p_1:Nat×q03×q02×q0c×q04×Cod.Giv) (p_3:Nat×q02×q04):Prop :=
 (True∧True∧True∧false=false∧True∧True∧True∧True∧(p.1:Int)=(p.1:Int)∧p_1.2.2.2.2.2.2.1.getD (p.1:Int).toNat (0:Int)=p_1.2.2.2.2.2.2.1.getD (p.1:Int).toNat (0:Int)∧p_1.2.2.2.2.2.2.1=p_1.2.2.2.2.2.2.1∧(p_1.2.2.2.2.2.2.1.length:Int)=(p_1.2.2.2.2.2.2.1.length:Int)∧(p.1:Int)=(p.1:Int)∧e.near (p_1.2.2.2.2.2.2.1.getD (p.1:Int).toNat (0:Int))=e.near (p_1.2.2.2.2.2.2.1.getD (p.1:Int).toNat (0:Int))∧(↑(e.near (p_1.2.2.2.2.2.2.1.getD (p.1:Int).toNat (0:Int))).length:Int)=(↑(e.near (p_1.2.2.2.2.2.2.1.getD (p.1:Int).toNat (0:Int))).length:Int)∧(p_3.1:Int)=(p_3.1:Int)∧True∧True∧True∧True∧True∧True∧book=book∧(↑(List.length book):Int)=(↑(List.length book):Int)∧(p_1.1:Int)=(p_1.1:Int)∧false=false∧True)
abbrev qc7 (p':Nat×q03×q02×q04) (p_2:Nat×q03×q02×q0c×q04×Cod.Giv) (p_3:Nat×q03×q02×q04):Prop :=
 ((p_3.1:Int)+1=(p'.1:Int)∧True∧True∧True∧True∧p_2.2.2.2.2.2.2.1=p_2.2.2.2.2.2.2.1∧(p_2.2.2.2.2.2.2.1.length:Int)=(p_2.2.2.2.2.2.2.1.length:Int)∧True)
abbrev qin (p_2:Nat×q03×q02×q0c×q04×Cod.Giv) (p_3:Nat×q03×q02×q04):Prop :=
 (True∧True∧True∧True∧(p_3.1:Int)=(p_3.1:Int)∧p_2.2.2.2.2.2.2.1.getD (p_3.1:Int).toNat (0:Int)=p_2.2.2.2.2.2.2.1.getD (p_3.1:Int).toNat (0:Int)∧p_2.2.2.2.2.2.2.1=p_2.2.2.2.2.2.2.1∧(p_2.2.2.2.2.2.2.1.length:Int)=(p_2.2.2.2.2.2.2.1.length:Int)∧(p_3.1:Int)=(p_3.1:Int)∧True)
abbrev q8d (e:Cod.Ear) (p':Nat×q03×q02×q04) (p_2:Nat×q03×q02×q0c×q04×Cod.Giv):Prop :=
 (p'.1≤p_2.2.2.2.2.2.2.1.length∧q09 e p'.2.1∧q0v [] p_2.2.2.2.2.1 p_2.2.2.2.2.2 (e.q0i p_2.2.2.2.2.2.2.1 p'.1 (0:Nat)) p'.2.2.1 p'.2.2.2)
abbrev qaa (e:Cod.Ear) (p':Nat×q02×q04) (p_2:Nat×q03×q02×q0c×q04×Cod.Giv) (p_3:Nat×q03×q02×q04):Prop :=
 (p'.1≤(e.near (p_2.2.2.2.2.2.2.1.getD (p_3.1:Int).toNat (0:Int))).length∧q0v p_3.2.2.1 p_3.2.2.2 p_2.2.2.2.2.2 (q0x e p_2.2.2.2.2.2.2.1 (p_3.1:Int).toNat p'.1) p'.2.1 p'.2.2)
abbrev qkg (e:Cod.Ear) (p:Nat×q03×q02×q04) (p':Nat×q02×q04) (p_1:Nat×q03×q02×q0c×q04×Cod.Giv) (p_3:Nat×q02×q04):Prop :=
 ((p_3.1:Int)+1=(p'.1:Int)∧True∧True∧True∧True∧(p.1:Int)=(p.1:Int)∧p_1.2.2.2.2.2.2.1.getD (p.1:Int).toNat (0:Int)=p_1.2.2.2.2.2.2.1.getD (p.1:Int).toNat (0:Int)∧p_1.2.2.2.2.2.2.1=p_1.2.2.2.2.2.2.1∧(p_1.2.2.2.2.2.2.1.length:Int)=(p_1.2.2.2.2.2.2.1.length:Int)∧(p.1:Int)=(p.1:Int)∧e.near (p_1.2.2.2.2.2.2.1.getD (p.1:Int).toNat (0:Int))=e.near (p_1.2.2.2.2.2.2.1.getD (p.1:Int).toNat (0:Int))∧(↑(e.near (p_1.2.2.2.2.2.2.1.getD (p.1:Int).toNat (0:Int))).length:Int)=(↑(e.near (p_1.2.2.2.2.2.2.1.getD (p.1:Int).toNat (0:Int))).length:Int)∧True)
abbrev qkh (book:q0k) (p:Nat×q03×q02×q04) (p_1:Nat×q03×q02×q0c×q04×Cod.Giv):Prop :=
 (True∧True∧True∧false=false∧True∧True∧True∧True∧(p.1:Int)=(p.1:Int)∧p_1.2.2.2.2.2.2.1.getD (p.1:Int).toNat (0:Int)=p_1.2.2.2.2.2.2.1.getD (p.1:Int).toNat (0:Int)∧p_1.2.2.2.2.2.2.1=p_1.2.2.2.2.2.2.1∧(p_1.2.2.2.2.2.2.1.length:Int)=(p_1.2.2.2.2.2.2.1.length:Int)∧(p.1:Int)=(p.1:Int)∧True∧True∧True∧True∧True∧True∧True∧True∧True∧book=book∧(↑(List.length book):Int)=(↑(List.length book):Int)∧(p_1.1:Int)=(p_1.1:Int)∧false=false∧True)
abbrev qjx (p:Nat×q03×q02×q04) (p':Nat) (p_1:Nat×q03×q02×q0c×q04×Cod.Giv):Prop :=
 (p'≤((getK (Cod.key ((p_1.2.2.2.2.2.2.1.set (p.1:Int).toNat (p_1.2.2.2.2.2.2.1.getD ((p.1:Int)-1).toNat (0:Int))).set ((p.1:Int)-1).toNat (p_1.2.2.2.2.2.2.1.getD (p.1:Int).toNat (0:Int)))) p_1.2.2.2.2.1).getD []).length∧((List.take p' ((getK (Cod.key ((p_1.2.2.2.2.2.2.1.set (p.1:Int).toNat (p_1.2.2.2.2.2.2.1.getD ((p.1:Int)-1).toNat (0:Int))).set ((p.1:Int)-1).toNat (p_1.2.2.2.2.2.2.1.getD (p.1:Int).toNat (0:Int)))) p_1.2.2.2.2.1).getD [])).any fun (o:List UInt8×List Int×Bool×Int×Int)=>Cod.q0q o p_1.2.2.2.2.2)=false)
abbrev qk3 (book:q0k) (p:Nat×q03×q02×q04) (p_1:Nat×q03×q02×q0c×q04×Cod.Giv):Prop :=
 (True∧True∧True∧True∧(p.1:Int)=(p.1:Int)∧p_1.2.2.2.2.2.2.1.getD (p.1:Int).toNat (0:Int)=p_1.2.2.2.2.2.2.1.getD (p.1:Int).toNat (0:Int)∧p_1.2.2.2.2.2.2.1=p_1.2.2.2.2.2.2.1∧(p_1.2.2.2.2.2.2.1.length:Int)=(p_1.2.2.2.2.2.2.1.length:Int)∧(p.1:Int)=(p.1:Int)∧True∧True∧True∧True∧True∧True∧True∧True∧True∧book=book∧(↑(List.length book):Int)=(↑(List.length book):Int)∧(p_1.1:Int)=(p_1.1:Int)∧false=false∧True)
abbrev qjw (book:q0k) (p_2:Nat×q03×q02×q0c×q04×Cod.Giv) (p_3:Nat×q03×q02×q04):Prop :=
 (True∧True∧True∧True∧(p_3.1:Int)=(p_3.1:Int)∧p_2.2.2.2.2.2.2.1.getD (p_3.1:Int).toNat (0:Int)=p_2.2.2.2.2.2.2.1.getD (p_3.1:Int).toNat (0:Int)∧p_2.2.2.2.2.2.2.1=p_2.2.2.2.2.2.2.1∧(p_2.2.2.2.2.2.2.1.length:Int)=(p_2.2.2.2.2.2.2.1.length:Int)∧(p_3.1:Int)=(p_3.1:Int)∧True∧True∧True∧True∧True∧True∧True∧True∧book=book∧(↑(List.length book):Int)=(↑(List.length book):Int)∧(p_2.1:Int)=(p_2.1:Int)∧True∧True)
abbrev q4t (p_1:Nat×q03×q02×q0c×q04×Cod.Giv) (p_2:q03):Prop :=
 (p_2=p_2∧p_1.2.2.1=p_1.2.2.1∧p_1.2.2.2.1=p_1.2.2.2.1∧True)
abbrev qfb (p:q03) (p':Nat×q03×q02×q04) (p_2:Nat×q03×q02×q0c×q04×Cod.Giv) (p_5:q02×q04):Prop :=
 (p_5.1=p'.2.2.1∧p=p'.2.1∧putK (Cod.key p_2.2.2.2.2.2.2.1) true p_2.2.2.1=putK (Cod.key p_2.2.2.2.2.2.2.1) true p_2.2.2.1∧Mp.put (fun (x x_1:List UInt8)=>x==x_1) p_2.2.2.2.2.2.1 true p_2.2.2.2.1=Mp.put (fun (x x_1:List UInt8)=>x==x_1) p_2.2.2.2.2.2.1 true p_2.2.2.2.1∧True)
abbrev q8a (book:q0k) (e:Cod.Ear):Prop :=
 (True∧Snd.q0o e.c=(Snd.q0j e.lang e.ws&&Snd.q0o e.c)∧book=book∧True∧True)
abbrev q87 (book:q0k) (e:Cod.Ear):Prop :=
 (True∧false=(Snd.q0j e.lang e.ws&&Snd.q0o e.c)∧book=book∧True∧True)
abbrev qkv (p:q03) (p':Nat×q03×q02×q04) (p_2:Nat×q03×q02×q0c×q04×Cod.Giv) (p_3:Nat×q03×q02×q04) (p_5:q02×q04):Prop :=
 (putK (Cod.key ((p_2.2.2.2.2.2.2.1.set (p_3.1:Int).toNat (p_2.2.2.2.2.2.2.1.getD ((p_3.1:Int)-1).toNat (0:Int))).set ((p_3.1:Int)-1).toNat (p_2.2.2.2.2.2.2.1.getD (p_3.1:Int).toNat (0:Int)))) true p_5.1=p'.2.2.1∧p=p'.2.1∧putK (Cod.key p_2.2.2.2.2.2.2.1) true p_2.2.2.1=putK (Cod.key p_2.2.2.2.2.2.2.1) true p_2.2.2.1∧Mp.put (fun (x x_1:List UInt8)=>x==x_1) p_2.2.2.2.2.2.1 true p_2.2.2.2.1=Mp.put (fun (x x_1:List UInt8)=>x==x_1) p_2.2.2.2.2.2.1 true p_2.2.2.2.1∧True)
abbrev qk9 (e:Cod.Ear) (p:Nat×q03×q02×q04) (p':Nat) (p_1:Nat×q03×q02×q0c×q04×Cod.Giv) (p_3:Nat×q02×q04):Prop :=
 (p'≤((getK (Cod.key (p_1.2.2.2.2.2.2.1.set (p.1:Int).toNat ((e.near (p_1.2.2.2.2.2.2.1.getD (p.1:Int).toNat (0:Int))).getD (p_3.1:Int).toNat (0:Int)))) p_1.2.2.2.2.1).getD []).length∧((List.take p' ((getK (Cod.key (p_1.2.2.2.2.2.2.1.set (p.1:Int).toNat ((e.near (p_1.2.2.2.2.2.2.1.getD (p.1:Int).toNat (0:Int))).getD (p_3.1:Int).toNat (0:Int)))) p_1.2.2.2.2.1).getD [])).any fun (o:List UInt8×List Int×Bool×Int×Int)=>Cod.q0q o p_1.2.2.2.2.2)=false)
abbrev qcn (e:Cod.Ear) (p':Nat×q03×q02×q04) (p_1:Nat×q03×q02×q0c×q04×Cod.Giv):Prop :=
 (p'.1≤p_1.2.2.2.2.2.2.1.length∧q09 e p'.2.1∧(e.q0i p_1.2.2.2.2.2.2.1 p'.1 (0:Nat)).all (q0w p_1.2.2.1 p_1.2.2.2.2.1 p_1.2.2.2.2.2)=true)
abbrev qet (p:Nat×q03×q02×q04) (p':Nat×q03×q02×q04) (p_1:Nat×q03×q02×q0c×q04×Cod.Giv):Prop :=
 ((p.1:Int)+1=(p'.1:Int)∧True∧True∧True∧True∧p_1.2.2.2.2.2.2.1=p_1.2.2.2.2.2.2.1∧(p_1.2.2.2.2.2.2.1.length:Int)=(p_1.2.2.2.2.2.2.1.length:Int)∧True)
abbrev qku (e:Cod.Ear) (p:q03) (p':Nat×q02×q04) (p_2:Nat×q03×q02×q0c×q04×Cod.Giv) (p_3:Nat×q03×q02×q04) (p_4:Nat×q02×q04):Prop :=
 (putK (Cod.key (p_2.2.2.2.2.2.2.1.set (p_3.1:Int).toNat ((e.near (p_2.2.2.2.2.2.2.1.getD (p_3.1:Int).toNat (0:Int))).getD (p_4.1:Int).toNat (0:Int)))) true p_4.2.1=p'.2.1∧p=p∧putK (Cod.key p_2.2.2.2.2.2.2.1) true p_2.2.2.1=putK (Cod.key p_2.2.2.2.2.2.2.1) true p_2.2.2.1∧Mp.put (fun (x x_1:List UInt8)=>x==x_1) p_2.2.2.2.2.2.1 true p_2.2.2.2.1=Mp.put (fun (x x_1:List UInt8)=>x==x_1) p_2.2.2.2.2.2.1 true p_2.2.2.2.1∧True)
abbrev qf5 (e:Cod.Ear) (p:Nat×q03×q02×q04) (p':Nat×q02×q04) (p_1:Nat×q03×q02×q0c×q04×Cod.Giv):Prop :=
 (p'.1≤(e.near (p_1.2.2.2.2.2.2.1.getD (p.1:Int).toNat (0:Int))).length∧(q0x e p_1.2.2.2.2.2.2.1 (p.1:Int).toNat p'.1).all (q0w p_1.2.2.1 p_1.2.2.2.2.1 p_1.2.2.2.2.2)=true)
abbrev qjy (e:Cod.Ear):Prop :=
 ((e.lang=e.lang∧e.ws=e.ws∧True)∧(e.lang=e.lang∧e.ws=e.ws∧True∧e.c=e.c∧True)∧(True∧True∧True∧True)∧(e.lang=e.lang∧e.ws=e.ws∧True)∧True)
abbrev qkt (p:Nat×q03×q02×q04) (p':Nat) (p_1:Nat×q03×q02×q0c×q04×Cod.Giv):Prop :=
 (p'≤((getK (Cod.key (p_1.2.2.2.2.2.2.1.eraseIdx (p.1:Int).toNat)) p_1.2.2.2.2.1).getD []).length∧((List.take p' ((getK (Cod.key (p_1.2.2.2.2.2.2.1.eraseIdx (p.1:Int).toNat)) p_1.2.2.2.2.1).getD [])).any fun (o:List UInt8×List Int×Bool×Int×Int)=>Cod.q0q o p_1.2.2.2.2.2)=false)
set_option maxRecDepth 100000 in
theorem proper_vc (e:Cod.Ear) (book:q0k) (h:q8b.pre ((e.lang,e.ws),e.c,book)) :
  (((q0d (e.lang,e.ws)∧bif Snd.q0j e.lang e.ws then q0h e.c∧∃ (p':Unit),True∧(q8a book e)∧(q4m e)∧True∧True∧(([]:q03)=[]∧True)∧True∧True∧True∧True∧True else ∃ (p':Unit),True∧(q87 book e)∧(q4m e)∧True∧True∧(([]:q03)=[]∧True)∧True∧True∧True∧True∧True)∧q0d (e.lang,e.ws)∧bif Snd.q0j e.lang e.ws then (q0h e.c∧∃ (p':Unit),True∧(q8a book e)∧(q4m e)∧True∧True∧(([]:q03)=[]∧True)∧True∧True∧True∧True∧True)∧q0h e.c∧∃ (p':Unit),True∧(q8a book e)∧(q4m e)∧True∧True∧(([]:q03)=[]∧True)∧True∧True∧True∧True∧True else (∃ (p':Unit),True∧(q87 book e)∧(q4m e)∧True∧True∧(([]:q03)=[]∧True)∧True∧True∧True∧True∧True)∧∃ (p':Unit),True∧(q87 book e)∧(q4m e)∧True∧True∧(([]:q03)=[]∧True)∧True∧True∧True∧True∧True)∧q0d (e.lang,e.ws)∧bif Snd.q0j e.lang e.ws then ((q0h e.c∧∃ (p':Unit),True∧(q8a book e)∧(q4m e)∧True∧True∧(([]:q03)=[]∧True)∧True∧True∧True∧True∧True)∧q0h e.c∧∃ (p':Unit),True∧(q8a book e)∧(q4m e)∧True∧True∧(([]:q03)=[]∧True)∧True∧True∧True∧True∧True)∧q0h e.c∧∃ (p':Unit),True∧(q8a book e)∧(q4m e)∧True∧True∧(([]:q03)=[]∧True)∧True∧True∧True∧True∧True else ((∃ (p':Unit),True∧(q87 book e)∧(q4m e)∧True∧True∧(([]:q03)=[]∧True)∧True∧True∧True∧True∧True)∧∃ (p':Unit),True∧(q87 book e)∧(q4m e)∧True∧True∧(([]:q03)=[]∧True)∧True∧True∧True∧True∧True)∧∃ (p':Unit),True∧(q87 book e)∧(q4m e)∧True∧True∧(([]:q03)=[]∧True)∧True∧True∧True∧True∧True)∧∀ (p:Unit),True→bif !(Snd.q0j e.lang e.ws&&Snd.q0o e.c) then false=e.proper book else bif decide ((20000:Int)<(↑(List.length book):Int)) then false=e.proper book else (∃ (p':Nat×q03×q02×q0c×q04),(p'.1≤List.length book∧q09 e p'.2.1∧q29 (List.take p'.1 book) p'.2.2.1∧q2c (List.take p'.1 book) p'.2.2.2.1∧q2f e (List.take p'.1 book) p'.2.2.2.2∧e.shelf [] (List.take p'.1 book)=true)∧((0:Int)=(p'.1:Int)∧True∧True∧True∧book=book∧(↑(List.length book):Int)=(↑(List.length book):Int)∧True)∧(qjy e)∧True∧True∧([]=p'.2.1∧[]=p'.2.2.1∧[]=p'.2.2.2.1∧True)∧True∧True∧True∧[]=p'.2.2.2.2∧True)∧∀ (p:Nat×q03×q02×q0c×q04),p.1≤List.length book∧q09 e p.2.1∧q29 (List.take p.1 book) p.2.2.1∧q2c (List.take p.1 book) p.2.2.2.1∧q2f e (List.take p.1 book) p.2.2.2.2∧e.shelf [] (List.take p.1 book)=true→bif decide ((p.1:Int)<(↑(List.length book):Int)) then ((0≤(p.1:Int)∧(p.1:Int)<(↑(List.length book):Int))∧∃ (p':Nat×q03×q02×q0c×q04×Cod.Giv),(p'.1=(p.1:Int).toNat∧p'.1<List.length book∧p'.2.2.2.2.2=List.getD book p'.1 Cod.noG∧q09 e p'.2.1∧q29 (List.take p'.1 book) p'.2.2.1∧q2c (List.take p'.1 book) p'.2.2.2.1∧q2f e (List.take p'.1 book) p'.2.2.2.2.1∧e.shelf [] (List.take p'.1 book)=true)∧(True∧(p.1:Int)=(p'.1:Int)∧True∧True∧True∧book=book∧(↑(List.length book):Int)=(↑(List.length book):Int)∧True)∧(((List.getD book (p.1:Int).toNat Cod.noG).1=p'.2.2.2.2.2.1∧(List.getD book (p.1:Int).toNat Cod.noG).2.1=p'.2.2.2.2.2.2.1∧(List.getD book (p.1:Int).toNat Cod.noG).2.2.1=p'.2.2.2.2.2.2.2.1∧(List.getD book (p.1:Int).toNat Cod.noG).2.2.2.1=p'.2.2.2.2.2.2.2.2.1∧(List.getD book (p.1:Int).toNat Cod.noG).2.2.2.2=p'.2.2.2.2.2.2.2.2.2∧True)∧(e.lang=e.lang∧e.ws=e.ws∧True)∧(e.lang=e.lang∧e.ws=e.ws∧True∧e.c=e.c∧True)∧(True∧True∧True∧True)∧(e.lang=e.lang∧e.ws=e.ws∧True)∧True)∧True∧True∧(p.2.1=p'.2.1∧p.2.2.1=p'.2.2.1∧p.2.2.2.1=p'.2.2.2.1∧True)∧True∧True∧True∧p.2.2.2.2=p'.2.2.2.2.1∧True)∧∀ (p_1:Nat×q03×q02×q0c×q04×Cod.Giv),p_1.1=(p.1:Int).toNat∧p_1.1<List.length book∧p_1.2.2.2.2.2=List.getD book p_1.1 Cod.noG∧q09 e p_1.2.1∧q29 (List.take p_1.1 book) p_1.2.2.1∧q2c (List.take p_1.1 book) p_1.2.2.2.1∧q2f e (List.take p_1.1 book) p_1.2.2.2.2.1∧e.shelf [] (List.take p_1.1 book)=true→(p_1.2.2.2.2.2.1.length≤(1000:Nat)∧bif !Lx.q1l p_1.2.2.2.2.2.1 then false=e.proper book else bif (Mp.get (fun (x x_1:List UInt8)=>x==x_1) p_1.2.2.2.2.2.1 p_1.2.2.2.1).getD false then false=e.proper book else True∧bif !Cod.q28 p_1.2.2.2.2.2 then false=e.proper book else (q0d (e.lang,e.ws)∧p_1.2.2.2.2.2.2.1.length≤(1000000:Nat))∧bif !Cod.q0p e.lang e.ws p_1.2.2.2.2.2.2.1 then false=e.proper book else True∧bif (getK (Cod.key p_1.2.2.2.2.2.2.1) p_1.2.2.1).getD false then false=e.proper book else bif decide ((0:Int)<(↑((getK (Cod.key p_1.2.2.2.2.2.2.1) p_1.2.2.2.2.1).getD []).length:Int)) then false=e.proper book else (∃ (p':Nat×q03×q02×q04),(qcn e p' p_1)∧((0:Int)=(p'.1:Int)∧True∧True∧True∧True∧p_1.2.2.2.2.2.2.1=p_1.2.2.2.2.2.2.1∧(p_1.2.2.2.2.2.2.1.length:Int)=(p_1.2.2.2.2.2.2.1.length:Int)∧True)∧(q3h e p_1)∧True∧True∧(p_1.2.1=p'.2.1∧p_1.2.2.1=p_1.2.2.1∧p_1.2.2.2.1=p_1.2.2.2.1∧True)∧(q7o book p_1)∧True∧True∧p_1.2.2.2.2.1=p_1.2.2.2.2.1∧True∧(True∧True∧True∧True)∧True)∧∀ (p:Nat×q03×q02×q04),p.1≤p_1.2.2.2.2.2.2.1.length∧q09 e p.2.1∧(e.q0i p_1.2.2.2.2.2.2.1 p.1 (0:Nat)).all (q0w p_1.2.2.1 p_1.2.2.2.2.1 p_1.2.2.2.2.2)=true→bif decide ((p.1:Int)<(p_1.2.2.2.2.2.2.1.length:Int)) then (0≤(p.1:Int)∧(p.1:Int)<(p_1.2.2.2.2.2.2.1.length:Int))∧(bif !(Mp.get (fun (x x_1:Int)=>x==x_1) (p_1.2.2.2.2.2.2.1.getD (p.1:Int).toNat (0:Int)) p.2.1).isSome then ((0:Int)≤p_1.2.2.2.2.2.2.1.getD (p.1:Int).toNat (0:Int)∧p_1.2.2.2.2.2.2.1.getD (p.1:Int).toNat 0<(e.ws.length:Int))∧(q0d (e.lang,e.ws)∧q0h e.c∧(e.ws.getD (p_1.2.2.2.2.2.2.1.getD (p.1:Int).toNat (0:Int)).toNat []).length≤(1000000:Nat))∧∃ (p':q03),q09 e p'∧((Snd.q0u e.lang e.ws e.c (e.ws.getD (p_1.2.2.2.2.2.2.1.getD (p.1:Int).toNat (0:Int)).toNat [])).1=e.near (p_1.2.2.2.2.2.2.1.getD (p.1:Int).toNat (0:Int))∧True)∧(q3h e p_1)∧True∧True∧(Mp.put (fun (x x_1:Int)=>x==x_1) (p_1.2.2.2.2.2.2.1.getD (p.1:Int).toNat (0:Int)) (Snd.q0u e.lang e.ws e.c (e.ws.getD (p_1.2.2.2.2.2.2.1.getD (p.1:Int).toNat (0:Int)).toNat [])).1 p.2.1=p'∧p_1.2.2.1=p_1.2.2.1∧p_1.2.2.2.1=p_1.2.2.2.1∧True)∧(qk3 book p p_1)∧True∧True∧p_1.2.2.2.2.1=p_1.2.2.2.2.1∧True∧(True∧True∧True∧True)∧True else ∃ (p':q03),q09 e p'∧((Mp.get (fun (x x_1:Int)=>x==x_1) (p_1.2.2.2.2.2.2.1.getD (p.1:Int).toNat (0:Int)) p.2.1).getD []=e.near (p_1.2.2.2.2.2.2.1.getD (p.1:Int).toNat (0:Int))∧True)∧(q3h e p_1)∧True∧True∧(p.2.1=p'∧p_1.2.2.1=p_1.2.2.1∧p_1.2.2.2.1=p_1.2.2.2.1∧True)∧(qk3 book p p_1)∧True∧True∧p_1.2.2.2.2.1=p_1.2.2.2.2.1∧True∧(True∧True∧True∧True)∧True)∧∀ (p_2:q03),q09 e p_2→(∃ (p':Nat×q02×q04),(qf5 e p p' p_1)∧((0:Int)=(p'.1:Int)∧True∧True∧True∧True∧(p.1:Int)=(p.1:Int)∧p_1.2.2.2.2.2.2.1.getD (p.1:Int).toNat (0:Int)=p_1.2.2.2.2.2.2.1.getD (p.1:Int).toNat (0:Int)∧p_1.2.2.2.2.2.2.1=p_1.2.2.2.2.2.2.1∧(p_1.2.2.2.2.2.2.1.length:Int)=(p_1.2.2.2.2.2.2.1.length:Int)∧(p.1:Int)=(p.1:Int)∧e.near (p_1.2.2.2.2.2.2.1.getD (p.1:Int).toNat (0:Int))=e.near (p_1.2.2.2.2.2.2.1.getD (p.1:Int).toNat (0:Int))∧(↑(e.near (p_1.2.2.2.2.2.2.1.getD (p.1:Int).toNat (0:Int))).length:Int)=(↑(e.near (p_1.2.2.2.2.2.2.1.getD (p.1:Int).toNat (0:Int))).length:Int)∧True)∧(q3h e p_1)∧True∧True∧(q4t p_1 p_2)∧(q7o book p_1)∧True∧True∧p_1.2.2.2.2.1=p_1.2.2.2.2.1∧True∧(True∧True∧True∧True)∧True)∧∀ (p_3:Nat×q02×q04),p_3.1≤(e.near (p_1.2.2.2.2.2.2.1.getD (p.1:Int).toNat (0:Int))).length∧(q0x e p_1.2.2.2.2.2.2.1 (p.1:Int).toNat p_3.1).all (q0w p_1.2.2.1 p_1.2.2.2.2.1 p_1.2.2.2.2.2)=true→bif decide ((p_3.1:Int)<(↑(e.near (p_1.2.2.2.2.2.2.1.getD (p.1:Int).toNat (0:Int))).length:Int)) then (0≤(p_3.1:Int)∧(p_3.1:Int)<(↑(e.near (p_1.2.2.2.2.2.2.1.getD (p.1:Int).toNat (0:Int))).length:Int))∧bif (e.near (p_1.2.2.2.2.2.2.1.getD (p.1:Int).toNat (0:Int))).getD (p_3.1:Int).toNat (0:Int) != p_1.2.2.2.2.2.2.1.getD (p.1:Int).toNat (0:Int) then p_1.2.2.2.2.2.2.1.length≤(1000000:Nat)∧(0≤(p.1:Int)∧(p.1:Int)<(p_1.2.2.2.2.2.2.1.length:Int))∧bif (p.1:Int).toNat.beq (p.1:Int).toNat then True∧bif (getK (Cod.key (p_1.2.2.2.2.2.2.1.set (p.1:Int).toNat ((e.near (p_1.2.2.2.2.2.2.1.getD (p.1:Int).toNat (0:Int))).getD (p_3.1:Int).toNat (0:Int)))) p_1.2.2.1).getD false then false=e.proper book else (∃ (p':Nat),(qk9 e p p' p_1 p_3)∧((0:Int)=(p':Int)∧Cod.key (p_1.2.2.2.2.2.2.1.set (p.1:Int).toNat ((e.near (p_1.2.2.2.2.2.2.1.getD (p.1:Int).toNat (0:Int))).getD (p_3.1:Int).toNat (0:Int)))=Cod.key (p_1.2.2.2.2.2.2.1.set (p.1:Int).toNat ((e.near (p_1.2.2.2.2.2.2.1.getD (p.1:Int).toNat (0:Int))).getD (p_3.1:Int).toNat (0:Int)))∧True∧(↑((getK (Cod.key (p_1.2.2.2.2.2.2.1.set (p.1:Int).toNat ((e.near (p_1.2.2.2.2.2.2.1.getD (p.1:Int).toNat (0:Int))).getD (p_3.1:Int).toNat (0:Int)))) p_1.2.2.2.2.1).getD []).length:Int)=(↑((getK (Cod.key (p_1.2.2.2.2.2.2.1.set (p.1:Int).toNat ((e.near (p_1.2.2.2.2.2.2.1.getD (p.1:Int).toNat (0:Int))).getD (p_3.1:Int).toNat (0:Int)))) p_1.2.2.2.2.1).getD []).length:Int)∧True)∧(q3h e p_1)∧True∧True∧(q4t p_1 p_2)∧(zCoG0_6 book e p p_1 p_3)∧True∧True∧p_1.2.2.2.2.1=p_1.2.2.2.2.1∧True∧(True∧True∧True∧True)∧True)∧∀ (p_4:Nat),p_4≤((getK (Cod.key (p_1.2.2.2.2.2.2.1.set (p.1:Int).toNat ((e.near (p_1.2.2.2.2.2.2.1.getD (p.1:Int).toNat (0:Int))).getD (p_3.1:Int).toNat (0:Int)))) p_1.2.2.2.2.1).getD []).length∧((List.take p_4 ((getK (Cod.key (p_1.2.2.2.2.2.2.1.set (p.1:Int).toNat ((e.near (p_1.2.2.2.2.2.2.1.getD (p.1:Int).toNat (0:Int))).getD (p_3.1:Int).toNat (0:Int)))) p_1.2.2.2.2.1).getD [])).any fun (o:List UInt8×List Int×Bool×Int×Int)=>Cod.q0q o p_1.2.2.2.2.2)=false→bif decide ((p_4:Int)<(↑((getK (Cod.key (p_1.2.2.2.2.2.2.1.set (p.1:Int).toNat ((e.near (p_1.2.2.2.2.2.2.1.getD (p.1:Int).toNat (0:Int))).getD (p_3.1:Int).toNat (0:Int)))) p_1.2.2.2.2.1).getD []).length:Int)) then (0≤(p_4:Int)∧(p_4:Int)<(↑((getK (Cod.key (p_1.2.2.2.2.2.2.1.set (p.1:Int).toNat ((e.near (p_1.2.2.2.2.2.2.1.getD (p.1:Int).toNat (0:Int))).getD (p_3.1:Int).toNat (0:Int)))) p_1.2.2.2.2.1).getD []).length:Int))∧True∧bif Cod.q0q (((getK (Cod.key (p_1.2.2.2.2.2.2.1.set (p.1:Int).toNat ((e.near (p_1.2.2.2.2.2.2.1.getD (p.1:Int).toNat (0:Int))).getD (p_3.1:Int).toNat (0:Int)))) p_1.2.2.2.2.1).getD []).getD (p_4:Int).toNat Cod.noG) p_1.2.2.2.2.2 then false=e.proper book else (zFit ((p_4:Int)+1))∧∃ (p':Nat),(qk9 e p p' p_1 p_3)∧((getK (Cod.key (p_1.2.2.2.2.2.2.1.set (p.1:Int).toNat ((e.near (p_1.2.2.2.2.2.2.1.getD (p.1:Int).toNat (0:Int))).getD (p_3.1:Int).toNat (0:Int)))) p_1.2.2.2.2.1).getD []).length-p'<((getK (Cod.key (p_1.2.2.2.2.2.2.1.set (p.1:Int).toNat ((e.near (p_1.2.2.2.2.2.2.1.getD (p.1:Int).toNat (0:Int))).getD (p_3.1:Int).toNat (0:Int)))) p_1.2.2.2.2.1).getD []).length-p_4∧((p_4:Int)+1=(p':Int)∧Cod.key (p_1.2.2.2.2.2.2.1.set (p.1:Int).toNat ((e.near (p_1.2.2.2.2.2.2.1.getD (p.1:Int).toNat (0:Int))).getD (p_3.1:Int).toNat (0:Int)))=Cod.key (p_1.2.2.2.2.2.2.1.set (p.1:Int).toNat ((e.near (p_1.2.2.2.2.2.2.1.getD (p.1:Int).toNat (0:Int))).getD (p_3.1:Int).toNat (0:Int)))∧True∧(↑((getK (Cod.key (p_1.2.2.2.2.2.2.1.set (p.1:Int).toNat ((e.near (p_1.2.2.2.2.2.2.1.getD (p.1:Int).toNat (0:Int))).getD (p_3.1:Int).toNat (0:Int)))) p_1.2.2.2.2.1).getD []).length:Int)=(↑((getK (Cod.key (p_1.2.2.2.2.2.2.1.set (p.1:Int).toNat ((e.near (p_1.2.2.2.2.2.2.1.getD (p.1:Int).toNat (0:Int))).getD (p_3.1:Int).toNat (0:Int)))) p_1.2.2.2.2.1).getD []).length:Int)∧True)∧(q3h e p_1)∧True∧True∧(q4t p_1 p_2)∧(zCoG0_6 book e p p_1 p_3)∧True∧True∧p_1.2.2.2.2.1=p_1.2.2.2.2.1∧True∧(True∧True∧True∧True)∧True else (zFit ((p_3.1:Int)+1))∧∃ (p':Nat×q02×q04),(qf5 e p p' p_1)∧(e.near (p_1.2.2.2.2.2.2.1.getD (p.1:Int).toNat (0:Int))).length-p'.1<(e.near (p_1.2.2.2.2.2.2.1.getD (p.1:Int).toNat (0:Int))).length-p_3.1∧(qkg e p p' p_1 p_3)∧(q3h e p_1)∧True∧True∧(q4t p_1 p_2)∧(q7o book p_1)∧True∧True∧p_1.2.2.2.2.1=p_1.2.2.2.2.1∧True∧(True∧True∧True∧True)∧True else False else (zFit ((p_3.1:Int)+1))∧∃ (p':Nat×q02×q04),(qf5 e p p' p_1)∧(e.near (p_1.2.2.2.2.2.2.1.getD (p.1:Int).toNat (0:Int))).length-p'.1<(e.near (p_1.2.2.2.2.2.2.1.getD (p.1:Int).toNat (0:Int))).length-p_3.1∧(qkg e p p' p_1 p_3)∧(q3h e p_1)∧True∧True∧(q4t p_1 p_2)∧(q7o book p_1)∧True∧True∧p_1.2.2.2.2.1=p_1.2.2.2.2.1∧True∧(True∧True∧True∧True)∧True else (p_1.2.2.2.2.2.2.1.length≤(1000000:Nat)∧(zFit ((p.1:Int)+1))∧((p.1:Int)+1=(p.1:Int)+1∧0≤(p.1:Int)∧(p.1:Int)<(p_1.2.2.2.2.2.2.1.length:Int))∧True∧bif (getK (Cod.key (p_1.2.2.2.2.2.2.1.eraseIdx (p.1:Int).toNat)) p_1.2.2.1).getD false then false=e.proper book else (∃ (p':Nat),(qkt p p' p_1)∧((0:Int)=(p':Int)∧Cod.key (p_1.2.2.2.2.2.2.1.eraseIdx (p.1:Int).toNat)=Cod.key (p_1.2.2.2.2.2.2.1.eraseIdx (p.1:Int).toNat)∧True∧(↑((getK (Cod.key (p_1.2.2.2.2.2.2.1.eraseIdx (p.1:Int).toNat)) p_1.2.2.2.2.1).getD []).length:Int)=(↑((getK (Cod.key (p_1.2.2.2.2.2.2.1.eraseIdx (p.1:Int).toNat)) p_1.2.2.2.2.1).getD []).length:Int)∧True)∧(q3h e p_1)∧True∧True∧(q4t p_1 p_2)∧(zCoG0_7 book e p p_1 p_3)∧True∧True∧p_1.2.2.2.2.1=p_1.2.2.2.2.1∧True∧(True∧True∧True∧True)∧True)∧∀ (p_4:Nat),p_4≤((getK (Cod.key (p_1.2.2.2.2.2.2.1.eraseIdx (p.1:Int).toNat)) p_1.2.2.2.2.1).getD []).length∧((List.take p_4 ((getK (Cod.key (p_1.2.2.2.2.2.2.1.eraseIdx (p.1:Int).toNat)) p_1.2.2.2.2.1).getD [])).any fun (o:List UInt8×List Int×Bool×Int×Int)=>Cod.q0q o p_1.2.2.2.2.2)=false→bif decide ((p_4:Int)<(↑((getK (Cod.key (p_1.2.2.2.2.2.2.1.eraseIdx (p.1:Int).toNat)) p_1.2.2.2.2.1).getD []).length:Int)) then (0≤(p_4:Int)∧(p_4:Int)<(↑((getK (Cod.key (p_1.2.2.2.2.2.2.1.eraseIdx (p.1:Int).toNat)) p_1.2.2.2.2.1).getD []).length:Int))∧True∧bif Cod.q0q (((getK (Cod.key (p_1.2.2.2.2.2.2.1.eraseIdx (p.1:Int).toNat)) p_1.2.2.2.2.1).getD []).getD (p_4:Int).toNat Cod.noG) p_1.2.2.2.2.2 then false=e.proper book else (zFit ((p_4:Int)+1))∧∃ (p':Nat),(qkt p p' p_1)∧((getK (Cod.key (p_1.2.2.2.2.2.2.1.eraseIdx (p.1:Int).toNat)) p_1.2.2.2.2.1).getD []).length-p'<((getK (Cod.key (p_1.2.2.2.2.2.2.1.eraseIdx (p.1:Int).toNat)) p_1.2.2.2.2.1).getD []).length-p_4∧((p_4:Int)+1=(p':Int)∧Cod.key (p_1.2.2.2.2.2.2.1.eraseIdx (p.1:Int).toNat)=Cod.key (p_1.2.2.2.2.2.2.1.eraseIdx (p.1:Int).toNat)∧True∧(↑((getK (Cod.key (p_1.2.2.2.2.2.2.1.eraseIdx (p.1:Int).toNat)) p_1.2.2.2.2.1).getD []).length:Int)=(↑((getK (Cod.key (p_1.2.2.2.2.2.2.1.eraseIdx (p.1:Int).toNat)) p_1.2.2.2.2.1).getD []).length:Int)∧True)∧(q3h e p_1)∧True∧True∧(q4t p_1 p_2)∧(zCoG0_7 book e p p_1 p_3)∧True∧True∧p_1.2.2.2.2.1=p_1.2.2.2.2.1∧True∧(True∧True∧True∧True)∧True else ∃ (p':q02×q04),q0w p_1.2.2.1 p_1.2.2.2.2.1 p_1.2.2.2.2.2 (p_1.2.2.2.2.2.2.1.eraseIdx (p.1:Int).toNat)=true∧(True∧True∧True∧True∧(p.1:Int)=(p.1:Int)∧p_1.2.2.2.2.2.2.1.getD (p.1:Int).toNat (0:Int)=p_1.2.2.2.2.2.2.1.getD (p.1:Int).toNat (0:Int)∧p_1.2.2.2.2.2.2.1=p_1.2.2.2.2.2.2.1∧(p_1.2.2.2.2.2.2.1.length:Int)=(p_1.2.2.2.2.2.2.1.length:Int)∧(p.1:Int)=(p.1:Int)∧True)∧(q3h e p_1)∧True∧True∧(q4t p_1 p_2)∧(q7o book p_1)∧True∧True∧p_1.2.2.2.2.1=p_1.2.2.2.2.1∧True∧(True∧True∧True∧True)∧True)∧∀ (p_4:q02×q04),q0w p_1.2.2.1 p_1.2.2.2.2.1 p_1.2.2.2.2.2 (p_1.2.2.2.2.2.2.1.eraseIdx (p.1:Int).toNat)=true→bif (p.1:Int)==(0:Int) then (zFit ((p.1:Int)+1))∧∃ (p':Nat×q03×q02×q04),(qcn e p' p_1)∧p_1.2.2.2.2.2.2.1.length-p'.1<p_1.2.2.2.2.2.2.1.length-p.1∧(qet p p' p_1)∧(q3h e p_1)∧True∧True∧(p_2=p'.2.1∧p_1.2.2.1=p_1.2.2.1∧p_1.2.2.2.1=p_1.2.2.2.1∧True)∧(q7o book p_1)∧True∧True∧p_1.2.2.2.2.1=p_1.2.2.2.2.1∧True∧(True∧True∧True∧True)∧True else (zFit ((p.1:Int)-1))∧(0≤(p.1:Int)-1∧(p.1:Int)-1<(p_1.2.2.2.2.2.2.1.length:Int))∧bif p_1.2.2.2.2.2.2.1.getD ((p.1:Int)-1).toNat (0:Int)==p_1.2.2.2.2.2.2.1.getD (p.1:Int).toNat (0:Int) then (zFit ((p.1:Int)+1))∧∃ (p':Nat×q03×q02×q04),(qcn e p' p_1)∧p_1.2.2.2.2.2.2.1.length-p'.1<p_1.2.2.2.2.2.2.1.length-p.1∧(qet p p' p_1)∧(q3h e p_1)∧True∧True∧(p_2=p'.2.1∧p_1.2.2.1=p_1.2.2.1∧p_1.2.2.2.1=p_1.2.2.2.1∧True)∧(q7o book p_1)∧True∧True∧p_1.2.2.2.2.1=p_1.2.2.2.2.1∧True∧(True∧True∧True∧True)∧True else (zFit ((p.1:Int)-1))∧(0≤(p.1:Int)-1∧(p.1:Int)-1<(p_1.2.2.2.2.2.2.1.length:Int))∧p_1.2.2.2.2.2.2.1.length≤(1000000:Nat)∧(0≤(p.1:Int)∧(p.1:Int)<(p_1.2.2.2.2.2.2.1.length:Int))∧bif (p.1:Int).toNat.beq (p.1:Int).toNat then (zFit ((p.1:Int)-1))∧(0≤(p.1:Int)-1∧(p.1:Int)-1<(↑(p_1.2.2.2.2.2.2.1.set (p.1:Int).toNat (p_1.2.2.2.2.2.2.1.getD ((p.1:Int)-1).toNat (0:Int))).length:Int))∧bif ((p.1:Int)-1).toNat.beq ((p.1:Int)-1).toNat then True∧bif (getK (Cod.key ((p_1.2.2.2.2.2.2.1.set (p.1:Int).toNat (p_1.2.2.2.2.2.2.1.getD ((p.1:Int)-1).toNat (0:Int))).set ((p.1:Int)-1).toNat (p_1.2.2.2.2.2.2.1.getD (p.1:Int).toNat (0:Int)))) p_1.2.2.1).getD false then false=e.proper book else (∃ (p':Nat),(qjx p p' p_1)∧((0:Int)=(p':Int)∧Cod.key ((p_1.2.2.2.2.2.2.1.set (p.1:Int).toNat (p_1.2.2.2.2.2.2.1.getD ((p.1:Int)-1).toNat (0:Int))).set ((p.1:Int)-1).toNat (p_1.2.2.2.2.2.2.1.getD (p.1:Int).toNat (0:Int)))=Cod.key ((p_1.2.2.2.2.2.2.1.set (p.1:Int).toNat (p_1.2.2.2.2.2.2.1.getD ((p.1:Int)-1).toNat (0:Int))).set ((p.1:Int)-1).toNat (p_1.2.2.2.2.2.2.1.getD (p.1:Int).toNat (0:Int)))∧True∧(↑((getK (Cod.key ((p_1.2.2.2.2.2.2.1.set (p.1:Int).toNat (p_1.2.2.2.2.2.2.1.getD ((p.1:Int)-1).toNat (0:Int))).set ((p.1:Int)-1).toNat (p_1.2.2.2.2.2.2.1.getD (p.1:Int).toNat (0:Int)))) p_1.2.2.2.2.1).getD []).length:Int)=(↑((getK (Cod.key ((p_1.2.2.2.2.2.2.1.set (p.1:Int).toNat (p_1.2.2.2.2.2.2.1.getD ((p.1:Int)-1).toNat (0:Int))).set ((p.1:Int)-1).toNat (p_1.2.2.2.2.2.2.1.getD (p.1:Int).toNat (0:Int)))) p_1.2.2.2.2.1).getD []).length:Int)∧True)∧(q3h e p_1)∧True∧True∧(q4t p_1 p_2)∧(qkh book p p_1)∧True∧True∧p_1.2.2.2.2.1=p_1.2.2.2.2.1∧True∧(True∧True∧True∧True)∧True)∧∀ (p_5:Nat),p_5≤((getK (Cod.key ((p_1.2.2.2.2.2.2.1.set (p.1:Int).toNat (p_1.2.2.2.2.2.2.1.getD ((p.1:Int)-1).toNat (0:Int))).set ((p.1:Int)-1).toNat (p_1.2.2.2.2.2.2.1.getD (p.1:Int).toNat (0:Int)))) p_1.2.2.2.2.1).getD []).length∧((List.take p_5 ((getK (Cod.key ((p_1.2.2.2.2.2.2.1.set (p.1:Int).toNat (p_1.2.2.2.2.2.2.1.getD ((p.1:Int)-1).toNat (0:Int))).set ((p.1:Int)-1).toNat (p_1.2.2.2.2.2.2.1.getD (p.1:Int).toNat (0:Int)))) p_1.2.2.2.2.1).getD [])).any fun (o:List UInt8×List Int×Bool×Int×Int)=>Cod.q0q o p_1.2.2.2.2.2)=false→bif decide ((p_5:Int)<(↑((getK (Cod.key ((p_1.2.2.2.2.2.2.1.set (p.1:Int).toNat (p_1.2.2.2.2.2.2.1.getD ((p.1:Int)-1).toNat (0:Int))).set ((p.1:Int)-1).toNat (p_1.2.2.2.2.2.2.1.getD (p.1:Int).toNat (0:Int)))) p_1.2.2.2.2.1).getD []).length:Int)) then (0≤(p_5:Int)∧(p_5:Int)<(↑((getK (Cod.key ((p_1.2.2.2.2.2.2.1.set (p.1:Int).toNat (p_1.2.2.2.2.2.2.1.getD ((p.1:Int)-1).toNat (0:Int))).set ((p.1:Int)-1).toNat (p_1.2.2.2.2.2.2.1.getD (p.1:Int).toNat (0:Int)))) p_1.2.2.2.2.1).getD []).length:Int))∧True∧bif Cod.q0q (((getK (Cod.key ((p_1.2.2.2.2.2.2.1.set (p.1:Int).toNat (p_1.2.2.2.2.2.2.1.getD ((p.1:Int)-1).toNat (0:Int))).set ((p.1:Int)-1).toNat (p_1.2.2.2.2.2.2.1.getD (p.1:Int).toNat (0:Int)))) p_1.2.2.2.2.1).getD []).getD (p_5:Int).toNat Cod.noG) p_1.2.2.2.2.2 then false=e.proper book else (zFit ((p_5:Int)+1))∧∃ (p':Nat),(qjx p p' p_1)∧((getK (Cod.key ((p_1.2.2.2.2.2.2.1.set (p.1:Int).toNat (p_1.2.2.2.2.2.2.1.getD ((p.1:Int)-1).toNat (0:Int))).set ((p.1:Int)-1).toNat (p_1.2.2.2.2.2.2.1.getD (p.1:Int).toNat (0:Int)))) p_1.2.2.2.2.1).getD []).length-p'<((getK (Cod.key ((p_1.2.2.2.2.2.2.1.set (p.1:Int).toNat (p_1.2.2.2.2.2.2.1.getD ((p.1:Int)-1).toNat (0:Int))).set ((p.1:Int)-1).toNat (p_1.2.2.2.2.2.2.1.getD (p.1:Int).toNat (0:Int)))) p_1.2.2.2.2.1).getD []).length-p_5∧((p_5:Int)+1=(p':Int)∧Cod.key ((p_1.2.2.2.2.2.2.1.set (p.1:Int).toNat (p_1.2.2.2.2.2.2.1.getD ((p.1:Int)-1).toNat (0:Int))).set ((p.1:Int)-1).toNat (p_1.2.2.2.2.2.2.1.getD (p.1:Int).toNat (0:Int)))=Cod.key ((p_1.2.2.2.2.2.2.1.set (p.1:Int).toNat (p_1.2.2.2.2.2.2.1.getD ((p.1:Int)-1).toNat (0:Int))).set ((p.1:Int)-1).toNat (p_1.2.2.2.2.2.2.1.getD (p.1:Int).toNat (0:Int)))∧True∧(↑((getK (Cod.key ((p_1.2.2.2.2.2.2.1.set (p.1:Int).toNat (p_1.2.2.2.2.2.2.1.getD ((p.1:Int)-1).toNat (0:Int))).set ((p.1:Int)-1).toNat (p_1.2.2.2.2.2.2.1.getD (p.1:Int).toNat (0:Int)))) p_1.2.2.2.2.1).getD []).length:Int)=(↑((getK (Cod.key ((p_1.2.2.2.2.2.2.1.set (p.1:Int).toNat (p_1.2.2.2.2.2.2.1.getD ((p.1:Int)-1).toNat (0:Int))).set ((p.1:Int)-1).toNat (p_1.2.2.2.2.2.2.1.getD (p.1:Int).toNat (0:Int)))) p_1.2.2.2.2.1).getD []).length:Int)∧True)∧(q3h e p_1)∧True∧True∧(q4t p_1 p_2)∧(qkh book p p_1)∧True∧True∧p_1.2.2.2.2.1=p_1.2.2.2.2.1∧True∧(True∧True∧True∧True)∧True else (zFit ((p.1:Int)+1))∧∃ (p':Nat×q03×q02×q04),(qcn e p' p_1)∧p_1.2.2.2.2.2.2.1.length-p'.1<p_1.2.2.2.2.2.2.1.length-p.1∧(qet p p' p_1)∧(q3h e p_1)∧True∧True∧(p_2=p'.2.1∧p_1.2.2.1=p_1.2.2.1∧p_1.2.2.2.1=p_1.2.2.2.1∧True)∧(q7o book p_1)∧True∧True∧p_1.2.2.2.2.1=p_1.2.2.2.2.1∧True∧(True∧True∧True∧True)∧True else False else False else ∃ (p':Nat×q03×q02×q0c×q04×Cod.Giv),(p'.1=(p_1.1:Int).toNat∧p'.1<List.length book∧p'.2.2.2.2.2=List.getD book p'.1 Cod.noG∧q09 e p'.2.1∧q29 (List.take p'.1 book) p'.2.2.1∧q2c (List.take p'.1 book) p'.2.2.2.1∧q2f e (List.take p'.1 book) p'.2.2.2.2.1∧e.shelf [] (List.take (p'.1+(1:Nat)) book)=true)∧(True∧(p_1.1:Int)=(p'.1:Int)∧True∧True∧True∧book=book∧(↑(List.length book):Int)=(↑(List.length book):Int)∧True)∧((p_1.2.2.2.2.2.1=p'.2.2.2.2.2.1∧p_1.2.2.2.2.2.2.1=p'.2.2.2.2.2.2.1∧p_1.2.2.2.2.2.2.2.1=p'.2.2.2.2.2.2.2.1∧p_1.2.2.2.2.2.2.2.2.1=p'.2.2.2.2.2.2.2.2.1∧p_1.2.2.2.2.2.2.2.2.2=p'.2.2.2.2.2.2.2.2.2∧True)∧(e.lang=e.lang∧e.ws=e.ws∧True)∧(e.lang=e.lang∧e.ws=e.ws∧True∧e.c=e.c∧True)∧(True∧True∧True∧True)∧(e.lang=e.lang∧e.ws=e.ws∧True)∧(p_1.2.2.2.2.2.1=p_1.2.2.2.2.2.1∧p_1.2.2.2.2.2.2.1=p_1.2.2.2.2.2.2.1∧p_1.2.2.2.2.2.2.2.1=p_1.2.2.2.2.2.2.2.1∧p_1.2.2.2.2.2.2.2.2.1=p_1.2.2.2.2.2.2.2.2.1∧p_1.2.2.2.2.2.2.2.2.2=p_1.2.2.2.2.2.2.2.2.2∧True)∧True)∧True∧True∧(p.2.1=p'.2.1∧p_1.2.2.1=p'.2.2.1∧p_1.2.2.2.1=p'.2.2.2.1∧True)∧True∧True∧True∧p_1.2.2.2.2.1=p'.2.2.2.2.1∧True)∧∀ (p_2:Nat×q03×q02×q0c×q04×Cod.Giv),p_2.1=(p_1.1:Int).toNat∧p_2.1<List.length book∧p_2.2.2.2.2.2=List.getD book p_2.1 Cod.noG∧q09 e p_2.2.1∧q29 (List.take p_2.1 book) p_2.2.2.1∧q2c (List.take p_2.1 book) p_2.2.2.2.1∧q2f e (List.take p_2.1 book) p_2.2.2.2.2.1∧e.shelf [] (List.take (p_2.1+(1:Nat)) book)=true→True∧(∃ (p':Nat×q03×q02×q04),(q8d e p' p_2)∧((0:Int)=(p'.1:Int)∧True∧True∧True∧True∧p_2.2.2.2.2.2.2.1=p_2.2.2.2.2.2.2.1∧(p_2.2.2.2.2.2.2.1.length:Int)=(p_2.2.2.2.2.2.2.1.length:Int)∧True)∧(q3i e p_2)∧True∧True∧([]=p'.2.2.1∧p_2.2.1=p'.2.1∧putK (Cod.key p_2.2.2.2.2.2.2.1) true p_2.2.2.1=putK (Cod.key p_2.2.2.2.2.2.2.1) true p_2.2.2.1∧Mp.put (fun (x x_1:List UInt8)=>x==x_1) p_2.2.2.2.2.2.1 true p_2.2.2.2.1=Mp.put (fun (x x_1:List UInt8)=>x==x_1) p_2.2.2.2.2.2.1 true p_2.2.2.2.1∧True)∧(q44 book p_2)∧True∧True∧p_2.2.2.2.2.1=p'.2.2.2∧True∧(True∧True∧True∧True)∧True)∧∀ (p_3:Nat×q03×q02×q04),p_3.1≤p_2.2.2.2.2.2.2.1.length∧q09 e p_3.2.1∧q0v [] p_2.2.2.2.2.1 p_2.2.2.2.2.2 (e.q0i p_2.2.2.2.2.2.2.1 p_3.1 (0:Nat)) p_3.2.2.1 p_3.2.2.2→bif decide ((p_3.1:Int)<(p_2.2.2.2.2.2.2.1.length:Int)) then (0≤(p_3.1:Int)∧(p_3.1:Int)<(p_2.2.2.2.2.2.2.1.length:Int))∧(bif !(Mp.get (fun (x x_1:Int)=>x==x_1) (p_2.2.2.2.2.2.2.1.getD (p_3.1:Int).toNat (0:Int)) p_3.2.1).isSome then ((0:Int)≤p_2.2.2.2.2.2.2.1.getD (p_3.1:Int).toNat (0:Int)∧p_2.2.2.2.2.2.2.1.getD (p_3.1:Int).toNat 0<(e.ws.length:Int))∧(q0d (e.lang,e.ws)∧q0h e.c∧(e.ws.getD (p_2.2.2.2.2.2.2.1.getD (p_3.1:Int).toNat (0:Int)).toNat []).length≤(1000000:Nat))∧∃ (p':q03),q09 e p'∧((Snd.q0u e.lang e.ws e.c (e.ws.getD (p_2.2.2.2.2.2.2.1.getD (p_3.1:Int).toNat (0:Int)).toNat [])).1=e.near (p_2.2.2.2.2.2.2.1.getD (p_3.1:Int).toNat (0:Int))∧True)∧(q3i e p_2)∧True∧True∧(p_3.2.2.1=p_3.2.2.1∧Mp.put (fun (x x_1:Int)=>x==x_1) (p_2.2.2.2.2.2.2.1.getD (p_3.1:Int).toNat (0:Int)) (Snd.q0u e.lang e.ws e.c (e.ws.getD (p_2.2.2.2.2.2.2.1.getD (p_3.1:Int).toNat (0:Int)).toNat [])).1 p_3.2.1=p'∧putK (Cod.key p_2.2.2.2.2.2.2.1) true p_2.2.2.1=putK (Cod.key p_2.2.2.2.2.2.2.1) true p_2.2.2.1∧Mp.put (fun (x x_1:List UInt8)=>x==x_1) p_2.2.2.2.2.2.1 true p_2.2.2.2.1=Mp.put (fun (x x_1:List UInt8)=>x==x_1) p_2.2.2.2.2.2.1 true p_2.2.2.2.1∧True)∧(qjw book p_2 p_3)∧True∧True∧p_3.2.2.2=p_3.2.2.2∧True∧(True∧True∧True∧True)∧True else ∃ (p':q03),q09 e p'∧((Mp.get (fun (x x_1:Int)=>x==x_1) (p_2.2.2.2.2.2.2.1.getD (p_3.1:Int).toNat (0:Int)) p_3.2.1).getD []=e.near (p_2.2.2.2.2.2.2.1.getD (p_3.1:Int).toNat (0:Int))∧True)∧(q3i e p_2)∧True∧True∧(p_3.2.2.1=p_3.2.2.1∧p_3.2.1=p'∧putK (Cod.key p_2.2.2.2.2.2.2.1) true p_2.2.2.1=putK (Cod.key p_2.2.2.2.2.2.2.1) true p_2.2.2.1∧Mp.put (fun (x x_1:List UInt8)=>x==x_1) p_2.2.2.2.2.2.1 true p_2.2.2.2.1=Mp.put (fun (x x_1:List UInt8)=>x==x_1) p_2.2.2.2.2.2.1 true p_2.2.2.2.1∧True)∧(qjw book p_2 p_3)∧True∧True∧p_3.2.2.2=p_3.2.2.2∧True∧(True∧True∧True∧True)∧True)∧∀ (p:q03),q09 e p→(∃ (p':Nat×q02×q04),(qaa e p' p_2 p_3)∧((0:Int)=(p'.1:Int)∧True∧True∧True∧True∧(p_3.1:Int)=(p_3.1:Int)∧p_2.2.2.2.2.2.2.1.getD (p_3.1:Int).toNat (0:Int)=p_2.2.2.2.2.2.2.1.getD (p_3.1:Int).toNat (0:Int)∧p_2.2.2.2.2.2.2.1=p_2.2.2.2.2.2.2.1∧(p_2.2.2.2.2.2.2.1.length:Int)=(p_2.2.2.2.2.2.2.1.length:Int)∧(p_3.1:Int)=(p_3.1:Int)∧e.near (p_2.2.2.2.2.2.2.1.getD (p_3.1:Int).toNat (0:Int))=e.near (p_2.2.2.2.2.2.2.1.getD (p_3.1:Int).toNat (0:Int))∧(↑(e.near (p_2.2.2.2.2.2.2.1.getD (p_3.1:Int).toNat (0:Int))).length:Int)=(↑(e.near (p_2.2.2.2.2.2.2.1.getD (p_3.1:Int).toNat (0:Int))).length:Int)∧True)∧(q3i e p_2)∧True∧True∧(p_3.2.2.1=p'.2.1∧p=p∧putK (Cod.key p_2.2.2.2.2.2.2.1) true p_2.2.2.1=putK (Cod.key p_2.2.2.2.2.2.2.1) true p_2.2.2.1∧Mp.put (fun (x x_1:List UInt8)=>x==x_1) p_2.2.2.2.2.2.1 true p_2.2.2.2.1=Mp.put (fun (x x_1:List UInt8)=>x==x_1) p_2.2.2.2.2.2.1 true p_2.2.2.2.1∧True)∧(q44 book p_2)∧True∧True∧p_3.2.2.2=p'.2.2∧True∧(True∧True∧True∧True)∧True)∧∀ (p_4:Nat×q02×q04),p_4.1≤(e.near (p_2.2.2.2.2.2.2.1.getD (p_3.1:Int).toNat (0:Int))).length∧q0v p_3.2.2.1 p_3.2.2.2 p_2.2.2.2.2.2 (q0x e p_2.2.2.2.2.2.2.1 (p_3.1:Int).toNat p_4.1) p_4.2.1 p_4.2.2→bif decide ((p_4.1:Int)<(↑(e.near (p_2.2.2.2.2.2.2.1.getD (p_3.1:Int).toNat (0:Int))).length:Int)) then (0≤(p_4.1:Int)∧(p_4.1:Int)<(↑(e.near (p_2.2.2.2.2.2.2.1.getD (p_3.1:Int).toNat (0:Int))).length:Int))∧bif (e.near (p_2.2.2.2.2.2.2.1.getD (p_3.1:Int).toNat (0:Int))).getD (p_4.1:Int).toNat (0:Int) != p_2.2.2.2.2.2.2.1.getD (p_3.1:Int).toNat (0:Int) then p_2.2.2.2.2.2.2.1.length≤(1000000:Nat)∧(0≤(p_3.1:Int)∧(p_3.1:Int)<(p_2.2.2.2.2.2.2.1.length:Int))∧bif (p_3.1:Int).toNat.beq (p_3.1:Int).toNat then True∧bif !(getK (Cod.key (p_2.2.2.2.2.2.2.1.set (p_3.1:Int).toNat ((e.near (p_2.2.2.2.2.2.2.1.getD (p_3.1:Int).toNat (0:Int))).getD (p_4.1:Int).toNat (0:Int)))) p_4.2.1).getD false then ((((getK (Cod.key (p_2.2.2.2.2.2.2.1.set (p_3.1:Int).toNat ((e.near (p_2.2.2.2.2.2.2.1.getD (p_3.1:Int).toNat (0:Int))).getD (p_4.1:Int).toNat (0:Int)))) (putK (Cod.key (p_2.2.2.2.2.2.2.1.set (p_3.1:Int).toNat ((e.near (p_2.2.2.2.2.2.2.1.getD (p_3.1:Int).toNat (0:Int))).getD (p_4.1:Int).toNat (0:Int)))) ((getK (Cod.key (p_2.2.2.2.2.2.2.1.set (p_3.1:Int).toNat ((e.near (p_2.2.2.2.2.2.2.1.getD (p_3.1:Int).toNat (0:Int))).getD (p_4.1:Int).toNat (0:Int)))) p_4.2.2).getD []) p_4.2.2)).getD []).length+[p_2.2.2.2.2.2].length)*(64:Nat)≤(140737488355328:Nat)∧Cod.key (p_2.2.2.2.2.2.2.1.set (p_3.1:Int).toNat ((e.near (p_2.2.2.2.2.2.2.1.getD (p_3.1:Int).toNat (0:Int))).getD (p_4.1:Int).toNat (0:Int)))=Cod.key (p_2.2.2.2.2.2.2.1.set (p_3.1:Int).toNat ((e.near (p_2.2.2.2.2.2.2.1.getD (p_3.1:Int).toNat (0:Int))).getD (p_4.1:Int).toNat (0:Int)))∧(zFit ((p_4.1:Int)+1))∧∃ (p':Nat×q02×q04),(qaa e p' p_2 p_3)∧(e.near (p_2.2.2.2.2.2.2.1.getD (p_3.1:Int).toNat (0:Int))).length-p'.1<(e.near (p_2.2.2.2.2.2.2.1.getD (p_3.1:Int).toNat (0:Int))).length-p_4.1∧(qei e p' p_2 p_3 p_4)∧(q3i e p_2)∧True∧True∧(qku e p p' p_2 p_3 p_4)∧(q44 book p_2)∧True∧True∧putK (Cod.key (p_2.2.2.2.2.2.2.1.set (p_3.1:Int).toNat ((e.near (p_2.2.2.2.2.2.2.1.getD (p_3.1:Int).toNat (0:Int))).getD (p_4.1:Int).toNat (0:Int)))) ((getK (Cod.key (p_2.2.2.2.2.2.2.1.set (p_3.1:Int).toNat ((e.near (p_2.2.2.2.2.2.2.1.getD (p_3.1:Int).toNat (0:Int))).getD (p_4.1:Int).toNat (0:Int)))) (putK (Cod.key (p_2.2.2.2.2.2.2.1.set (p_3.1:Int).toNat ((e.near (p_2.2.2.2.2.2.2.1.getD (p_3.1:Int).toNat (0:Int))).getD (p_4.1:Int).toNat (0:Int)))) ((getK (Cod.key (p_2.2.2.2.2.2.2.1.set (p_3.1:Int).toNat ((e.near (p_2.2.2.2.2.2.2.1.getD (p_3.1:Int).toNat (0:Int))).getD (p_4.1:Int).toNat (0:Int)))) p_4.2.2).getD []) p_4.2.2)).getD []++[p_2.2.2.2.2.2]) (putK (Cod.key (p_2.2.2.2.2.2.2.1.set (p_3.1:Int).toNat ((e.near (p_2.2.2.2.2.2.2.1.getD (p_3.1:Int).toNat (0:Int))).getD (p_4.1:Int).toNat (0:Int)))) ((getK (Cod.key (p_2.2.2.2.2.2.2.1.set (p_3.1:Int).toNat ((e.near (p_2.2.2.2.2.2.2.1.getD (p_3.1:Int).toNat (0:Int))).getD (p_4.1:Int).toNat (0:Int)))) p_4.2.2).getD []) p_4.2.2)=p'.2.2∧True∧(True∧True∧True∧True)∧True)∧(((getK (Cod.key (p_2.2.2.2.2.2.2.1.set (p_3.1:Int).toNat ((e.near (p_2.2.2.2.2.2.2.1.getD (p_3.1:Int).toNat (0:Int))).getD (p_4.1:Int).toNat (0:Int)))) (putK (Cod.key (p_2.2.2.2.2.2.2.1.set (p_3.1:Int).toNat ((e.near (p_2.2.2.2.2.2.2.1.getD (p_3.1:Int).toNat (0:Int))).getD (p_4.1:Int).toNat (0:Int)))) ((getK (Cod.key (p_2.2.2.2.2.2.2.1.set (p_3.1:Int).toNat ((e.near (p_2.2.2.2.2.2.2.1.getD (p_3.1:Int).toNat (0:Int))).getD (p_4.1:Int).toNat (0:Int)))) p_4.2.2).getD []) p_4.2.2)).getD []).length+[p_2.2.2.2.2.2].length)*(64:Nat)≤(140737488355328:Nat)∧Cod.key (p_2.2.2.2.2.2.2.1.set (p_3.1:Int).toNat ((e.near (p_2.2.2.2.2.2.2.1.getD (p_3.1:Int).toNat (0:Int))).getD (p_4.1:Int).toNat (0:Int)))=Cod.key (p_2.2.2.2.2.2.2.1.set (p_3.1:Int).toNat ((e.near (p_2.2.2.2.2.2.2.1.getD (p_3.1:Int).toNat (0:Int))).getD (p_4.1:Int).toNat (0:Int)))∧(zFit ((p_4.1:Int)+1))∧∃ (p':Nat×q02×q04),(qaa e p' p_2 p_3)∧(e.near (p_2.2.2.2.2.2.2.1.getD (p_3.1:Int).toNat (0:Int))).length-p'.1<(e.near (p_2.2.2.2.2.2.2.1.getD (p_3.1:Int).toNat (0:Int))).length-p_4.1∧(qei e p' p_2 p_3 p_4)∧(q3i e p_2)∧True∧True∧(qku e p p' p_2 p_3 p_4)∧(q44 book p_2)∧True∧True∧putK (Cod.key (p_2.2.2.2.2.2.2.1.set (p_3.1:Int).toNat ((e.near (p_2.2.2.2.2.2.2.1.getD (p_3.1:Int).toNat (0:Int))).getD (p_4.1:Int).toNat (0:Int)))) ((getK (Cod.key (p_2.2.2.2.2.2.2.1.set (p_3.1:Int).toNat ((e.near (p_2.2.2.2.2.2.2.1.getD (p_3.1:Int).toNat (0:Int))).getD (p_4.1:Int).toNat (0:Int)))) (putK (Cod.key (p_2.2.2.2.2.2.2.1.set (p_3.1:Int).toNat ((e.near (p_2.2.2.2.2.2.2.1.getD (p_3.1:Int).toNat (0:Int))).getD (p_4.1:Int).toNat (0:Int)))) ((getK (Cod.key (p_2.2.2.2.2.2.2.1.set (p_3.1:Int).toNat ((e.near (p_2.2.2.2.2.2.2.1.getD (p_3.1:Int).toNat (0:Int))).getD (p_4.1:Int).toNat (0:Int)))) p_4.2.2).getD []) p_4.2.2)).getD []++[p_2.2.2.2.2.2]) (putK (Cod.key (p_2.2.2.2.2.2.2.1.set (p_3.1:Int).toNat ((e.near (p_2.2.2.2.2.2.2.1.getD (p_3.1:Int).toNat (0:Int))).getD (p_4.1:Int).toNat (0:Int)))) ((getK (Cod.key (p_2.2.2.2.2.2.2.1.set (p_3.1:Int).toNat ((e.near (p_2.2.2.2.2.2.2.1.getD (p_3.1:Int).toNat (0:Int))).getD (p_4.1:Int).toNat (0:Int)))) p_4.2.2).getD []) p_4.2.2)=p'.2.2∧True∧(True∧True∧True∧True)∧True else (zFit ((p_4.1:Int)+1))∧∃ (p':Nat×q02×q04),(qaa e p' p_2 p_3)∧(e.near (p_2.2.2.2.2.2.2.1.getD (p_3.1:Int).toNat (0:Int))).length-p'.1<(e.near (p_2.2.2.2.2.2.2.1.getD (p_3.1:Int).toNat (0:Int))).length-p_4.1∧(qei e p' p_2 p_3 p_4)∧(q3i e p_2)∧True∧True∧(p_4.2.1=p'.2.1∧p=p∧putK (Cod.key p_2.2.2.2.2.2.2.1) true p_2.2.2.1=putK (Cod.key p_2.2.2.2.2.2.2.1) true p_2.2.2.1∧Mp.put (fun (x x_1:List UInt8)=>x==x_1) p_2.2.2.2.2.2.1 true p_2.2.2.2.1=Mp.put (fun (x x_1:List UInt8)=>x==x_1) p_2.2.2.2.2.2.1 true p_2.2.2.2.1∧True)∧(q44 book p_2)∧True∧True∧p_4.2.2=p'.2.2∧True∧(True∧True∧True∧True)∧True else False else (zFit ((p_4.1:Int)+1))∧∃ (p':Nat×q02×q04),(qaa e p' p_2 p_3)∧(e.near (p_2.2.2.2.2.2.2.1.getD (p_3.1:Int).toNat (0:Int))).length-p'.1<(e.near (p_2.2.2.2.2.2.2.1.getD (p_3.1:Int).toNat (0:Int))).length-p_4.1∧(qei e p' p_2 p_3 p_4)∧(q3i e p_2)∧True∧True∧(p_4.2.1=p'.2.1∧p=p∧putK (Cod.key p_2.2.2.2.2.2.2.1) true p_2.2.2.1=putK (Cod.key p_2.2.2.2.2.2.2.1) true p_2.2.2.1∧Mp.put (fun (x x_1:List UInt8)=>x==x_1) p_2.2.2.2.2.2.1 true p_2.2.2.2.1=Mp.put (fun (x x_1:List UInt8)=>x==x_1) p_2.2.2.2.2.2.1 true p_2.2.2.2.1∧True)∧(q44 book p_2)∧True∧True∧p_4.2.2=p'.2.2∧True∧(True∧True∧True∧True)∧True else (p_2.2.2.2.2.2.2.1.length≤(1000000:Nat)∧(zFit ((p_3.1:Int)+1))∧((p_3.1:Int)+1=(p_3.1:Int)+1∧0≤(p_3.1:Int)∧(p_3.1:Int)<(p_2.2.2.2.2.2.2.1.length:Int))∧True∧bif !(getK (Cod.key (p_2.2.2.2.2.2.2.1.eraseIdx (p_3.1:Int).toNat)) p_4.2.1).getD false then ((((getK (Cod.key (p_2.2.2.2.2.2.2.1.eraseIdx (p_3.1:Int).toNat)) (putK (Cod.key (p_2.2.2.2.2.2.2.1.eraseIdx (p_3.1:Int).toNat)) ((getK (Cod.key (p_2.2.2.2.2.2.2.1.eraseIdx (p_3.1:Int).toNat)) p_4.2.2).getD []) p_4.2.2)).getD []).length+[p_2.2.2.2.2.2].length)*(64:Nat)≤(140737488355328:Nat)∧Cod.key (p_2.2.2.2.2.2.2.1.eraseIdx (p_3.1:Int).toNat)=Cod.key (p_2.2.2.2.2.2.2.1.eraseIdx (p_3.1:Int).toNat)∧∃ (p':q02×q04),q0v p_4.2.1 p_4.2.2 p_2.2.2.2.2.2 [p_2.2.2.2.2.2.2.1.eraseIdx (p_3.1:Int).toNat] p'.1 p'.2∧(qin p_2 p_3)∧(q3i e p_2)∧True∧True∧(putK (Cod.key (p_2.2.2.2.2.2.2.1.eraseIdx (p_3.1:Int).toNat)) true p_4.2.1=p'.1∧p=p∧putK (Cod.key p_2.2.2.2.2.2.2.1) true p_2.2.2.1=putK (Cod.key p_2.2.2.2.2.2.2.1) true p_2.2.2.1∧Mp.put (fun (x x_1:List UInt8)=>x==x_1) p_2.2.2.2.2.2.1 true p_2.2.2.2.1=Mp.put (fun (x x_1:List UInt8)=>x==x_1) p_2.2.2.2.2.2.1 true p_2.2.2.2.1∧True)∧(q44 book p_2)∧True∧True∧putK (Cod.key (p_2.2.2.2.2.2.2.1.eraseIdx (p_3.1:Int).toNat)) ((getK (Cod.key (p_2.2.2.2.2.2.2.1.eraseIdx (p_3.1:Int).toNat)) (putK (Cod.key (p_2.2.2.2.2.2.2.1.eraseIdx (p_3.1:Int).toNat)) ((getK (Cod.key (p_2.2.2.2.2.2.2.1.eraseIdx (p_3.1:Int).toNat)) p_4.2.2).getD []) p_4.2.2)).getD []++[p_2.2.2.2.2.2]) (putK (Cod.key (p_2.2.2.2.2.2.2.1.eraseIdx (p_3.1:Int).toNat)) ((getK (Cod.key (p_2.2.2.2.2.2.2.1.eraseIdx (p_3.1:Int).toNat)) p_4.2.2).getD []) p_4.2.2)=p'.2∧True∧(True∧True∧True∧True)∧True)∧(((getK (Cod.key (p_2.2.2.2.2.2.2.1.eraseIdx (p_3.1:Int).toNat)) (putK (Cod.key (p_2.2.2.2.2.2.2.1.eraseIdx (p_3.1:Int).toNat)) ((getK (Cod.key (p_2.2.2.2.2.2.2.1.eraseIdx (p_3.1:Int).toNat)) p_4.2.2).getD []) p_4.2.2)).getD []).length+[p_2.2.2.2.2.2].length)*(64:Nat)≤(140737488355328:Nat)∧Cod.key (p_2.2.2.2.2.2.2.1.eraseIdx (p_3.1:Int).toNat)=Cod.key (p_2.2.2.2.2.2.2.1.eraseIdx (p_3.1:Int).toNat)∧∃ (p':q02×q04),q0v p_4.2.1 p_4.2.2 p_2.2.2.2.2.2 [p_2.2.2.2.2.2.2.1.eraseIdx (p_3.1:Int).toNat] p'.1 p'.2∧(qin p_2 p_3)∧(q3i e p_2)∧True∧True∧(putK (Cod.key (p_2.2.2.2.2.2.2.1.eraseIdx (p_3.1:Int).toNat)) true p_4.2.1=p'.1∧p=p∧putK (Cod.key p_2.2.2.2.2.2.2.1) true p_2.2.2.1=putK (Cod.key p_2.2.2.2.2.2.2.1) true p_2.2.2.1∧Mp.put (fun (x x_1:List UInt8)=>x==x_1) p_2.2.2.2.2.2.1 true p_2.2.2.2.1=Mp.put (fun (x x_1:List UInt8)=>x==x_1) p_2.2.2.2.2.2.1 true p_2.2.2.2.1∧True)∧(q44 book p_2)∧True∧True∧putK (Cod.key (p_2.2.2.2.2.2.2.1.eraseIdx (p_3.1:Int).toNat)) ((getK (Cod.key (p_2.2.2.2.2.2.2.1.eraseIdx (p_3.1:Int).toNat)) (putK (Cod.key (p_2.2.2.2.2.2.2.1.eraseIdx (p_3.1:Int).toNat)) ((getK (Cod.key (p_2.2.2.2.2.2.2.1.eraseIdx (p_3.1:Int).toNat)) p_4.2.2).getD []) p_4.2.2)).getD []++[p_2.2.2.2.2.2]) (putK (Cod.key (p_2.2.2.2.2.2.2.1.eraseIdx (p_3.1:Int).toNat)) ((getK (Cod.key (p_2.2.2.2.2.2.2.1.eraseIdx (p_3.1:Int).toNat)) p_4.2.2).getD []) p_4.2.2)=p'.2∧True∧(True∧True∧True∧True)∧True else ∃ (p':q02×q04),q0v p_4.2.1 p_4.2.2 p_2.2.2.2.2.2 [p_2.2.2.2.2.2.2.1.eraseIdx (p_3.1:Int).toNat] p'.1 p'.2∧(qin p_2 p_3)∧(q3i e p_2)∧True∧True∧(p_4.2.1=p'.1∧p=p∧putK (Cod.key p_2.2.2.2.2.2.2.1) true p_2.2.2.1=putK (Cod.key p_2.2.2.2.2.2.2.1) true p_2.2.2.1∧Mp.put (fun (x x_1:List UInt8)=>x==x_1) p_2.2.2.2.2.2.1 true p_2.2.2.2.1=Mp.put (fun (x x_1:List UInt8)=>x==x_1) p_2.2.2.2.2.2.1 true p_2.2.2.2.1∧True)∧(q44 book p_2)∧True∧True∧p_4.2.2=p'.2∧True∧(True∧True∧True∧True)∧True)∧∀ (p_5:q02×q04),q0v p_4.2.1 p_4.2.2 p_2.2.2.2.2.2 [p_2.2.2.2.2.2.2.1.eraseIdx (p_3.1:Int).toNat] p_5.1 p_5.2→bif (p_3.1:Int)==(0:Int) then (zFit ((p_3.1:Int)+1))∧∃ (p':Nat×q03×q02×q04),(q8d e p' p_2)∧p_2.2.2.2.2.2.2.1.length-p'.1<p_2.2.2.2.2.2.2.1.length-p_3.1∧(qc7 p' p_2 p_3)∧(q3i e p_2)∧True∧True∧(qfb p p' p_2 p_5)∧(q44 book p_2)∧True∧True∧p_5.2=p'.2.2.2∧True∧(True∧True∧True∧True)∧True else (zFit ((p_3.1:Int)-1))∧(0≤(p_3.1:Int)-1∧(p_3.1:Int)-1<(p_2.2.2.2.2.2.2.1.length:Int))∧bif p_2.2.2.2.2.2.2.1.getD ((p_3.1:Int)-1).toNat (0:Int)==p_2.2.2.2.2.2.2.1.getD (p_3.1:Int).toNat (0:Int) then (zFit ((p_3.1:Int)+1))∧∃ (p':Nat×q03×q02×q04),(q8d e p' p_2)∧p_2.2.2.2.2.2.2.1.length-p'.1<p_2.2.2.2.2.2.2.1.length-p_3.1∧(qc7 p' p_2 p_3)∧(q3i e p_2)∧True∧True∧(qfb p p' p_2 p_5)∧(q44 book p_2)∧True∧True∧p_5.2=p'.2.2.2∧True∧(True∧True∧True∧True)∧True else (zFit ((p_3.1:Int)-1))∧(0≤(p_3.1:Int)-1∧(p_3.1:Int)-1<(p_2.2.2.2.2.2.2.1.length:Int))∧p_2.2.2.2.2.2.2.1.length≤(1000000:Nat)∧(0≤(p_3.1:Int)∧(p_3.1:Int)<(p_2.2.2.2.2.2.2.1.length:Int))∧bif (p_3.1:Int).toNat.beq (p_3.1:Int).toNat then (zFit ((p_3.1:Int)-1))∧(0≤(p_3.1:Int)-1∧(p_3.1:Int)-1<(↑(p_2.2.2.2.2.2.2.1.set (p_3.1:Int).toNat (p_2.2.2.2.2.2.2.1.getD ((p_3.1:Int)-1).toNat (0:Int))).length:Int))∧bif ((p_3.1:Int)-1).toNat.beq ((p_3.1:Int)-1).toNat then True∧bif !(getK (Cod.key ((p_2.2.2.2.2.2.2.1.set (p_3.1:Int).toNat (p_2.2.2.2.2.2.2.1.getD ((p_3.1:Int)-1).toNat (0:Int))).set ((p_3.1:Int)-1).toNat (p_2.2.2.2.2.2.2.1.getD (p_3.1:Int).toNat (0:Int)))) p_5.1).getD false then ((((getK (Cod.key ((p_2.2.2.2.2.2.2.1.set (p_3.1:Int).toNat (p_2.2.2.2.2.2.2.1.getD ((p_3.1:Int)-1).toNat (0:Int))).set ((p_3.1:Int)-1).toNat (p_2.2.2.2.2.2.2.1.getD (p_3.1:Int).toNat (0:Int)))) (putK (Cod.key ((p_2.2.2.2.2.2.2.1.set (p_3.1:Int).toNat (p_2.2.2.2.2.2.2.1.getD ((p_3.1:Int)-1).toNat (0:Int))).set ((p_3.1:Int)-1).toNat (p_2.2.2.2.2.2.2.1.getD (p_3.1:Int).toNat (0:Int)))) ((getK (Cod.key ((p_2.2.2.2.2.2.2.1.set (p_3.1:Int).toNat (p_2.2.2.2.2.2.2.1.getD ((p_3.1:Int)-1).toNat (0:Int))).set ((p_3.1:Int)-1).toNat (p_2.2.2.2.2.2.2.1.getD (p_3.1:Int).toNat (0:Int)))) p_5.2).getD []) p_5.2)).getD []).length+[p_2.2.2.2.2.2].length)*(64:Nat)≤(140737488355328:Nat)∧Cod.key ((p_2.2.2.2.2.2.2.1.set (p_3.1:Int).toNat (p_2.2.2.2.2.2.2.1.getD ((p_3.1:Int)-1).toNat (0:Int))).set ((p_3.1:Int)-1).toNat (p_2.2.2.2.2.2.2.1.getD (p_3.1:Int).toNat (0:Int)))=Cod.key ((p_2.2.2.2.2.2.2.1.set (p_3.1:Int).toNat (p_2.2.2.2.2.2.2.1.getD ((p_3.1:Int)-1).toNat (0:Int))).set ((p_3.1:Int)-1).toNat (p_2.2.2.2.2.2.2.1.getD (p_3.1:Int).toNat (0:Int)))∧(zFit ((p_3.1:Int)+1))∧∃ (p':Nat×q03×q02×q04),(q8d e p' p_2)∧p_2.2.2.2.2.2.2.1.length-p'.1<p_2.2.2.2.2.2.2.1.length-p_3.1∧(qc7 p' p_2 p_3)∧(q3i e p_2)∧True∧True∧(qkv p p' p_2 p_3 p_5)∧(q44 book p_2)∧True∧True∧putK (Cod.key ((p_2.2.2.2.2.2.2.1.set (p_3.1:Int).toNat (p_2.2.2.2.2.2.2.1.getD ((p_3.1:Int)-1).toNat (0:Int))).set ((p_3.1:Int)-1).toNat (p_2.2.2.2.2.2.2.1.getD (p_3.1:Int).toNat (0:Int)))) ((getK (Cod.key ((p_2.2.2.2.2.2.2.1.set (p_3.1:Int).toNat (p_2.2.2.2.2.2.2.1.getD ((p_3.1:Int)-1).toNat (0:Int))).set ((p_3.1:Int)-1).toNat (p_2.2.2.2.2.2.2.1.getD (p_3.1:Int).toNat (0:Int)))) (putK (Cod.key ((p_2.2.2.2.2.2.2.1.set (p_3.1:Int).toNat (p_2.2.2.2.2.2.2.1.getD ((p_3.1:Int)-1).toNat (0:Int))).set ((p_3.1:Int)-1).toNat (p_2.2.2.2.2.2.2.1.getD (p_3.1:Int).toNat (0:Int)))) ((getK (Cod.key ((p_2.2.2.2.2.2.2.1.set (p_3.1:Int).toNat (p_2.2.2.2.2.2.2.1.getD ((p_3.1:Int)-1).toNat (0:Int))).set ((p_3.1:Int)-1).toNat (p_2.2.2.2.2.2.2.1.getD (p_3.1:Int).toNat (0:Int)))) p_5.2).getD []) p_5.2)).getD []++[p_2.2.2.2.2.2]) (putK (Cod.key ((p_2.2.2.2.2.2.2.1.set (p_3.1:Int).toNat (p_2.2.2.2.2.2.2.1.getD ((p_3.1:Int)-1).toNat (0:Int))).set ((p_3.1:Int)-1).toNat (p_2.2.2.2.2.2.2.1.getD (p_3.1:Int).toNat (0:Int)))) ((getK (Cod.key ((p_2.2.2.2.2.2.2.1.set (p_3.1:Int).toNat (p_2.2.2.2.2.2.2.1.getD ((p_3.1:Int)-1).toNat (0:Int))).set ((p_3.1:Int)-1).toNat (p_2.2.2.2.2.2.2.1.getD (p_3.1:Int).toNat (0:Int)))) p_5.2).getD []) p_5.2)=p'.2.2.2∧True∧(True∧True∧True∧True)∧True)∧(((getK (Cod.key ((p_2.2.2.2.2.2.2.1.set (p_3.1:Int).toNat (p_2.2.2.2.2.2.2.1.getD ((p_3.1:Int)-1).toNat (0:Int))).set ((p_3.1:Int)-1).toNat (p_2.2.2.2.2.2.2.1.getD (p_3.1:Int).toNat (0:Int)))) (putK (Cod.key ((p_2.2.2.2.2.2.2.1.set (p_3.1:Int).toNat (p_2.2.2.2.2.2.2.1.getD ((p_3.1:Int)-1).toNat (0:Int))).set ((p_3.1:Int)-1).toNat (p_2.2.2.2.2.2.2.1.getD (p_3.1:Int).toNat (0:Int)))) ((getK (Cod.key ((p_2.2.2.2.2.2.2.1.set (p_3.1:Int).toNat (p_2.2.2.2.2.2.2.1.getD ((p_3.1:Int)-1).toNat (0:Int))).set ((p_3.1:Int)-1).toNat (p_2.2.2.2.2.2.2.1.getD (p_3.1:Int).toNat (0:Int)))) p_5.2).getD []) p_5.2)).getD []).length+[p_2.2.2.2.2.2].length)*(64:Nat)≤(140737488355328:Nat)∧Cod.key ((p_2.2.2.2.2.2.2.1.set (p_3.1:Int).toNat (p_2.2.2.2.2.2.2.1.getD ((p_3.1:Int)-1).toNat (0:Int))).set ((p_3.1:Int)-1).toNat (p_2.2.2.2.2.2.2.1.getD (p_3.1:Int).toNat (0:Int)))=Cod.key ((p_2.2.2.2.2.2.2.1.set (p_3.1:Int).toNat (p_2.2.2.2.2.2.2.1.getD ((p_3.1:Int)-1).toNat (0:Int))).set ((p_3.1:Int)-1).toNat (p_2.2.2.2.2.2.2.1.getD (p_3.1:Int).toNat (0:Int)))∧(zFit ((p_3.1:Int)+1))∧∃ (p':Nat×q03×q02×q04),(q8d e p' p_2)∧p_2.2.2.2.2.2.2.1.length-p'.1<p_2.2.2.2.2.2.2.1.length-p_3.1∧(qc7 p' p_2 p_3)∧(q3i e p_2)∧True∧True∧(qkv p p' p_2 p_3 p_5)∧(q44 book p_2)∧True∧True∧putK (Cod.key ((p_2.2.2.2.2.2.2.1.set (p_3.1:Int).toNat (p_2.2.2.2.2.2.2.1.getD ((p_3.1:Int)-1).toNat (0:Int))).set ((p_3.1:Int)-1).toNat (p_2.2.2.2.2.2.2.1.getD (p_3.1:Int).toNat (0:Int)))) ((getK (Cod.key ((p_2.2.2.2.2.2.2.1.set (p_3.1:Int).toNat (p_2.2.2.2.2.2.2.1.getD ((p_3.1:Int)-1).toNat (0:Int))).set ((p_3.1:Int)-1).toNat (p_2.2.2.2.2.2.2.1.getD (p_3.1:Int).toNat (0:Int)))) (putK (Cod.key ((p_2.2.2.2.2.2.2.1.set (p_3.1:Int).toNat (p_2.2.2.2.2.2.2.1.getD ((p_3.1:Int)-1).toNat (0:Int))).set ((p_3.1:Int)-1).toNat (p_2.2.2.2.2.2.2.1.getD (p_3.1:Int).toNat (0:Int)))) ((getK (Cod.key ((p_2.2.2.2.2.2.2.1.set (p_3.1:Int).toNat (p_2.2.2.2.2.2.2.1.getD ((p_3.1:Int)-1).toNat (0:Int))).set ((p_3.1:Int)-1).toNat (p_2.2.2.2.2.2.2.1.getD (p_3.1:Int).toNat (0:Int)))) p_5.2).getD []) p_5.2)).getD []++[p_2.2.2.2.2.2]) (putK (Cod.key ((p_2.2.2.2.2.2.2.1.set (p_3.1:Int).toNat (p_2.2.2.2.2.2.2.1.getD ((p_3.1:Int)-1).toNat (0:Int))).set ((p_3.1:Int)-1).toNat (p_2.2.2.2.2.2.2.1.getD (p_3.1:Int).toNat (0:Int)))) ((getK (Cod.key ((p_2.2.2.2.2.2.2.1.set (p_3.1:Int).toNat (p_2.2.2.2.2.2.2.1.getD ((p_3.1:Int)-1).toNat (0:Int))).set ((p_3.1:Int)-1).toNat (p_2.2.2.2.2.2.2.1.getD (p_3.1:Int).toNat (0:Int)))) p_5.2).getD []) p_5.2)=p'.2.2.2∧True∧(True∧True∧True∧True)∧True else (zFit ((p_3.1:Int)+1))∧∃ (p':Nat×q03×q02×q04),(q8d e p' p_2)∧p_2.2.2.2.2.2.2.1.length-p'.1<p_2.2.2.2.2.2.2.1.length-p_3.1∧(qc7 p' p_2 p_3)∧(q3i e p_2)∧True∧True∧(qfb p p' p_2 p_5)∧(q44 book p_2)∧True∧True∧p_5.2=p'.2.2.2∧True∧(True∧True∧True∧True)∧True else False else False else (zFit ((p_2.1:Int)+1))∧∃ (p':Nat×q03×q02×q0c×q04),(p'.1≤List.length book∧q09 e p'.2.1∧q29 (List.take p'.1 book) p'.2.2.1∧q2c (List.take p'.1 book) p'.2.2.2.1∧q2f e (List.take p'.1 book) p'.2.2.2.2∧e.shelf [] (List.take p'.1 book)=true)∧List.length book-p'.1<List.length book-p.1∧((p_2.1:Int)+1=(p'.1:Int)∧True∧True∧True∧book=book∧(↑(List.length book):Int)=(↑(List.length book):Int)∧True)∧(qjy e)∧True∧True∧(p_3.2.1=p'.2.1∧putK (Cod.key p_2.2.2.2.2.2.2.1) true p_2.2.2.1=p'.2.2.1∧Mp.put (fun (x x_1:List UInt8)=>x==x_1) p_2.2.2.2.2.2.1 true p_2.2.2.2.1=p'.2.2.2.1∧True)∧True∧True∧True∧p_3.2.2.2=p'.2.2.2.2∧True else true=e.proper book:=by
 delta q3h q3i qei q44 q4m q7o zCoG0_6 zCoG0_7 qc7 qin q8d qaa qkg qkh qjx qk3 qjw q4t qfb q8a q87 qkv qk9 qcn qet qku qf5 qjy qkt zFit
 obtain ⟨hW,hC,hB1,hB2⟩:=h
 have hW:q0d (e.lang,e.ws):=hW
 have hC:q0h e.c:=hC
 have hB1:book.length≤1000000:=hB1
 simp only [true_and,and_true,eq_self,and_self,Nat.beq_refl,Bool.and_self,Bool.true_and,cond_true,Int.toNat_natCast,forall_const,exists_const,true_implies]
 have pr:e.proper book=(e.ok&&(decide ((book.length:Int)≤20000)&&e.shelf [] book)):=rfl
 have ok:e.ok=(Snd.q0j e.lang e.ws&&Snd.q0o e.c):=rfl
 refine ⟨?_,?_⟩
 ·clear pr
  generalize Snd.q0j e.lang e.ws=v at *
  generalize Snd.q0o e.c=q at *
  cases v <;> cases q <;> simp [hW,hC]
 rw [← ok]
 refine bifP (fun hok=>?_) fun hok=>bifP (fun h2=>?_) fun h2=>?_
 ·rw [pr,show e.ok=false from (by cases hh:e.ok <;> simp_all),Bool.false_and]
 ·rw [pr,decide_eq_false (by have:=of_decide_eq_true h2; omega),Bool.false_and,Bool.and_false]
 have hok:e.ok=true:=by
  cases hh:e.ok
  ·rw [hh] at hok; cases hok
  ·rfl
 have hlen:book.length≤20000:=by have:=of_decide_eq_false h2; omega
 have pr:e.proper book=e.shelf [] book:=by rw [pr,hok,decide_eq_true (by omega)]; simp
 rw [pr]
 refine ⟨⟨(0,[],[],[],[]),⟨Nat.zero_le _,qfp e,codes_nil,doors_nil,mist_nil e,rfl⟩,by and_intros <;> rfl⟩,?_⟩
 rintro ⟨i,nr,cm,dm,mm⟩ ⟨hi,hn,hc,hd,hm,hs⟩
 dsimp only at *
 refine bifP (fun hil=>?_) fun hil=>?_
 rotate_left
 ·rw [← List.take_of_length_le (l:=book) (i:=i) (by have:=of_decide_eq_false hil; omega)]
  exact hs.symm
 have hil:i<book.length:=by have:=of_decide_eq_true hil; omega
 refine ⟨⟨⟨by omega,by omega⟩,⟨(i,nr,cm,dm,mm,book.getD i Cod.noG),⟨rfl,hil,rfl,hn,hc,hd,hm,hs⟩,by and_intros <;> rfl⟩⟩,?_⟩
 rintro ⟨i,nr,cm,dm,mm,g⟩ ⟨hii,hil,hg,hn,hc,hd,hm,hs⟩
 dsimp only at *
 obtain ⟨hg1,hg2⟩:g.1.length≤1000∧g.2.1.length≤1000000:=hB2 g (by rw [hg]; exact Snd.q11 book _ i hil)
 have no:e.fits (book.take i) g=false→false=e.shelf [] book:=fun h=>(shelf_no hil (by rw [hg] at h; exact h)).symm
 have fitsE:e.fits (book.take i) g=(Lx.q1l g.1&&(!((getS g.1 dm).getD false)&&(Cod.q28 g&&(Cod.q0p e.lang e.ws g.2.1&&e.takes (book.take i) g)))):=by
  rw [hd g.1]; rfl
 refine ⟨⟨hg1,bifP (fun hnm=>no ?_) fun hnm=>bifP (fun hdo=>no ?_) fun hdo=>bifP (fun hpl=>no ?_) fun hpl=>⟨⟨hW,hg2⟩,bifP (fun hcd=>no ?_) fun hcd=>?_⟩⟩,?_⟩
 ·rw [fitsE,q4v hnm]; rfl
 ·rw [fitsE,show (getS g.1 dm).getD false=true from hdo]; simp
 ·rw [fitsE,q4v hpl]; simp
 ·rw [fitsE,q4v hcd]; simp
 ·have hcd:=q1m hcd
  obtain ⟨⟨hg3,hg5⟩,hin⟩:=qa5 hcd
  have takesE:e.takes (book.take i) g=q41 e cm mm g:=qka hc hm (qhh hs) hg5
  rw [takesE] at fitsE
  have hmm:∀ k,((getK k mm).getD []).length≤1000000:=fun k=>by
   have:=qio hm k
   rw [List.length_take] at this
   omega
  refine bifP (fun hk1=>no ?_) fun hk1=>bifP (fun hk2=>no ?_) fun hk2=>?_
  ·rw [fitsE]; unfold q41; rw [hk1]; simp
  ·have hk2:=of_decide_eq_true hk2
   rw [fitsE]; unfold q41
   rw [show (((getK (Cod.key g.2.1) mm).getD []).length==0)=false from beq_eq_false_iff_ne.2 (by omega)]; simp
  have hk2:(((getK (Cod.key g.2.1) mm).getD []).length==0)=true:=beq_iff_eq.2 (by have:=of_decide_eq_false hk2; omega)
  have noX:∀ x∈e.miss g.2.1,q0w cm mm g x=false→false=e.shelf [] book:=fun x hx hgx=>by
   apply no
   rw [fitsE]; unfold q41
   rw [show (e.miss g.2.1).all (q0w cm mm g)=false from List.all_eq_false.2 ⟨x,hx,by rw [hgx]; decide⟩]; simp
  refine ⟨⟨(0,nr,cm,mm),⟨Nat.zero_le _,hn,rfl⟩,by and_intros <;> rfl⟩,?_⟩
  rintro ⟨k,nr,_,_⟩ ⟨hkl,hn,hgood⟩
  dsimp only at *
  refine bifP (fun hkl=>?_) fun hkl=>?_
  rotate_left
  ·have hkl:=of_decide_eq_false hkl
   refine ⟨(i,nr,cm,dm,mm,g),⟨rfl,hil,hg,hn,hc,hd,hm,?_⟩,by and_intros <;> rfl⟩
   rw [q8x hil,hs,← Cod.noG,← hg,fitsE]
   unfold q41
   have hkk:k=g.2.1.length:=by omega
   rw [q1m hnm,show (getS g.1 dm).getD false=false from hdo,q1m hpl,hcd,hk1,hk2,show e.miss g.2.1=e.q0i g.2.1 k 0 by rw [hkk]; rfl,hgood]; rfl
  have hkl:k<g.2.1.length:=by have:=of_decide_eq_true hkl; omega
  obtain ⟨hw0,hw1⟩:=hin k hkl
  refine ⟨⟨by omega,by omega⟩,q7s hn hW hC hw0 hw1,?_⟩
  intro nr hn
  have hnl:(e.near (g.2.1.getD k 0)).length≤1000000:=Nat.le_trans (q66 e _) hW.2.1
  have next:(e.q2t g.2.1 k).all (q0w cm mm g)=true→(e.q0i g.2.1 (k+1) 0).all (q0w cm mm g)=true:=fun h=>by
   rw [q3x,List.all_append,hgood,h]; rfl
  refine ⟨⟨(0,cm,mm),⟨Nat.zero_le _,rfl⟩,by and_intros <;> rfl⟩,?_⟩
  rintro ⟨q,_,_⟩ ⟨hql,hpart⟩
  dsimp only at *
  refine bifP (fun hq=>?_) fun hq=>?_
  ·have hq:q<(e.near (g.2.1.getD k 0)).length:=by have:=of_decide_eq_true hq; omega
   refine ⟨⟨by omega,by omega⟩,bifP (fun hne=>?_) fun hne=>?_⟩
   ·refine ⟨by omega,⟨by omega,by omega⟩,?_⟩
    refine q6c (hmm _) (noX _ (qk0 hq hkl hne)) fun hgx=>?_
    refine ⟨⟨by omega,by omega⟩,(q+1,cm,mm),⟨by omega,?_⟩,by omega,by and_intros <;> omega⟩
    rw [q2y hq,if_pos hne,List.all_append,hpart,List.all_cons,hgx]; rfl
   ·refine ⟨⟨by omega,by omega⟩,(q+1,cm,mm),⟨by omega,?_⟩,by omega,by and_intros <;> omega⟩
    rw [q2y hq,if_neg (by rw [hne]; decide),List.append_nil,hpart]
  have hq:=of_decide_eq_false hq
  have full:=q73 (e:=e) (code:=g.2.1) (i:=k) (k:=q) (by omega)
  simp only [show ((k:Int)-1).toNat=k-1 by omega]
  refine ⟨⟨by omega,⟨by omega,by omega⟩,⟨by omega,by omega⟩,q6c (hmm _) (noX _ (qh6 hkl)) fun h=>h⟩,fun hge=>?_⟩
  refine bifP (fun h0=>⟨⟨by omega,by omega⟩,(k+1,nr,cm,mm),⟨by omega,hn,next ?_⟩,by omega,by and_intros <;> first | rfl | omega⟩) fun h0=>?_
  ·have h0:k=0:=by have:=beq_iff_eq.1 h0; omega
   rw [full,List.all_append,hpart,List.all_cons,hge,if_pos (.inl h0)]; rfl
  have h0:k≠0:=by have:=beq_eq_false_iff_ne.1 h0; omega
  refine ⟨⟨by omega,by omega⟩,⟨by omega,by omega⟩,bifP (fun h1=>⟨⟨by omega,by omega⟩,(k+1,nr,cm,mm),⟨by omega,hn,next ?_⟩,by omega,by and_intros <;> first | rfl | omega⟩) fun h1=>?_⟩
  ·rw [full,List.all_append,hpart,List.all_cons,hge,if_pos (.inr (beq_iff_eq.1 h1))]; rfl
  have h1:g.2.1.getD (k-1) 0≠g.2.1.getD k 0:=beq_eq_false_iff_ne.1 h1
  refine ⟨⟨by omega,by omega⟩,⟨by omega,by omega⟩,by omega,⟨by omega,by omega⟩,⟨by omega,by omega⟩,⟨by omega,by rw [List.length_set]; omega⟩,?_⟩
  refine q6c (x:=Cod.swapAt g.2.1 k) (hmm _) (noX _ (qkk hkl h0 h1)) fun hgx=>⟨⟨by omega,by omega⟩,(k+1,nr,cm,mm),⟨by omega,hn,next ?_⟩,by omega,by and_intros <;> first | rfl | omega⟩
  rw [full,List.all_append,hpart,List.all_cons,hge,if_neg (fun h=>h.elim h0 h1),List.all_cons,hgx]; rfl
 rintro ⟨i,nr,cm,dm,mm,g⟩ ⟨hii,hil,hg,hn,hc,hd,hm,hs⟩
 dsimp only at *
 have hfit:e.fits (book.take i) g=true:=by
  have:=hs
  rw [q8x hil,Bool.and_eq_true] at this
  rw [hg]; exact this.2
 have hcd:Cod.q0p e.lang e.ws g.2.1=true:=by
  have:=(Cod.qk7.1 hfit).1
  unfold Cod.okG at this
  simp only [Bool.and_eq_true] at this
  exact this.2.2
 obtain ⟨⟨hg3,hg5⟩,hin⟩:=qa5 hcd
 have hdone:(book.take i).length≤20000:=by rw [List.length_take]; omega
 refine ⟨⟨(0,nr,[],mm),⟨Nat.zero_le _,hn,qbr [] mm g⟩,by and_intros <;> rfl⟩,?_⟩
 rintro ⟨k,nr,s,m⟩ ⟨hkl,hn,hrel⟩
 dsimp only at *
 refine bifP (fun hkl=>?_) fun hkl=>?_
 rotate_left
 ·have hkl:=of_decide_eq_false hkl
  have tk:book.take (i+1)=book.take i++[g]:=by rw [hg]; exact Snd.q1n book Cod.noG i hil
  refine ⟨⟨by omega,by omega⟩,(i+1,nr,putK (Cod.key g.2.1) true cm,Mp.put (fun x x_1=>x==x_1) g.1 true dm,m),⟨by omega,hn,?_,?_,?_,hs⟩,by omega,by and_intros <;> first | rfl | omega⟩
  ·rw [tk]; exact codes_put hc g
  ·rw [tk]; exact doors_put hd g
  ·rw [tk]
   have hkk:k=g.2.1.length:=by omega
   rw [hkk] at hrel
   exact mist_put hm hrel
 have hkl:k<g.2.1.length:=by have:=of_decide_eq_true hkl; omega
 obtain ⟨hw0,hw1⟩:=hin k hkl
 refine ⟨⟨by omega,by omega⟩,q7s hn hW hC hw0 hw1,?_⟩
 intro nr hn
 have hnl:(e.near (g.2.1.getD k 0)).length≤1000000:=Nat.le_trans (q66 e _) hW.2.1
 have next:∀ {s' m'},q0v s m g (e.q2t g.2.1 k) s' m'→q0v [] mm g (e.q0i g.2.1 (k+1) 0) s' m':=fun h=>by
  rw [q3x]; exact q14 hrel h
 refine ⟨⟨(0,s,m),⟨Nat.zero_le _,qbr s m g⟩,by and_intros <;> rfl⟩,?_⟩
 rintro ⟨q,s1,m1⟩ ⟨hql,hpart⟩
 dsimp only at *
 have room:∀ k,(((getK k (putK k ((getK k m1).getD []) m1)).getD []).length+[g].length)*64≤140737488355328:=qew hm hdone (q14 hrel hpart)
 refine bifP (fun hq=>?_) fun hq=>?_
 ·have hq:q<(e.near (g.2.1.getD k 0)).length:=by have:=of_decide_eq_true hq; omega
  refine ⟨⟨by omega,by omega⟩,bifP (fun hne=>?_) fun hne=>?_⟩
  ·refine ⟨by omega,⟨by omega,by omega⟩,bifP (fun hx=>?_) fun hx=>?_⟩
   ·refine ⟨room _,⟨by omega,by omega⟩,(q+1,_,_),⟨by omega,?_⟩,by omega,by and_intros <;> first | rfl | omega⟩
    rw [q2y hq,if_pos hne]
    exact q14 hpart (q6q (q4v hx))
   ·refine ⟨⟨by omega,by omega⟩,(q+1,s1,m1),⟨by omega,?_⟩,by omega,by and_intros <;> first | rfl | omega⟩
    rw [q2y hq,if_pos hne]
    exact q14 hpart (q6n (q1m hx))
  ·refine ⟨⟨by omega,by omega⟩,(q+1,s1,m1),⟨by omega,?_⟩,by omega,by and_intros <;> first | rfl | omega⟩
   rw [q2y hq,if_neg (by rw [hne]; decide),List.append_nil]; exact hpart
 have hq:=of_decide_eq_false hq
 have full:=q73 (e:=e) (code:=g.2.1) (i:=k) (k:=q) (by omega)
 simp only [show ((k:Int)-1).toNat=k-1 by omega]
 refine ⟨⟨by omega,⟨by omega,by omega⟩,⟨by omega,by omega⟩,bifP (fun hx=>⟨room _,(_,_),q6q (q4v hx),by and_intros <;> rfl⟩) fun hx=>⟨(s1,m1),q6n (q1m hx),by and_intros <;> rfl⟩⟩,?_⟩
 rintro ⟨s2,m2⟩ hr2
 dsimp only at *
 have room2:∀ k,(((getK k (putK k ((getK k m2).getD []) m2)).getD []).length+[g].length)*64≤140737488355328:=qew hm hdone (q14 (q14 hrel hpart) hr2)
 have fin1:(k=0∨g.2.1.getD (k-1) 0=g.2.1.getD k 0)→q0v s m g (e.q2t g.2.1 k) s2 m2:=fun h=>by
  rw [full,if_pos h]; exact q14 hpart hr2
 refine bifP (fun h0=>⟨⟨by omega,by omega⟩,(k+1,nr,s2,m2),⟨by omega,hn,next (fin1 (.inl (by have:=beq_iff_eq.1 h0; omega)))⟩,by omega,by and_intros <;> first | rfl | omega⟩) fun h0=>?_
 have h0:k≠0:=by have:=beq_eq_false_iff_ne.1 h0; omega
 refine ⟨⟨by omega,by omega⟩,⟨by omega,by omega⟩,bifP (fun h1=>⟨⟨by omega,by omega⟩,(k+1,nr,s2,m2),⟨by omega,hn,next (fin1 (.inr (beq_iff_eq.1 h1)))⟩,by omega,by and_intros <;> first | rfl | omega⟩) fun h1=>?_⟩
 have h1:g.2.1.getD (k-1) 0≠g.2.1.getD k 0:=beq_eq_false_iff_ne.1 h1
 have fin2:∀ {s' m'},q0v s2 m2 g [Cod.swapAt g.2.1 k] s' m'→q0v s m g (e.q2t g.2.1 k) s' m':=fun h=>by
  rw [full,if_neg (fun h=>h.elim h0 h1)]; exact q14 hpart (q14 (xs:=[g.2.1.eraseIdx k]) (ys:=[Cod.swapAt g.2.1 k]) hr2 h)
 refine ⟨⟨by omega,by omega⟩,⟨by omega,by omega⟩,by omega,⟨by omega,by omega⟩,⟨by omega,by omega⟩,⟨by omega,by rw [List.length_set]; omega⟩,bifP (fun hx=>?_) fun hx=>?_⟩
 ·exact ⟨room2 _,⟨by omega,by omega⟩,(k+1,nr,_,_),⟨by omega,hn,next (fin2 (q6q (x:=Cod.swapAt g.2.1 k) (q4v hx)))⟩,by omega,by and_intros <;> first | rfl | omega⟩
 ·exact ⟨⟨by omega,by omega⟩,(k+1,nr,s2,m2),⟨by omega,hn,next (fin2 (q6n (x:=Cod.swapAt g.2.1 k) (q1m hx)))⟩,by omega,by and_intros <;> first | rfl | omega⟩
end Go.Proofs.YtfecgebhoondjaaGreatDoor
set_option linter.unusedVariables false
namespace Go.Proofs.YtfecgebhoondjaaGreatDoor
open Go.RowKit
open R
theorem kitCo_ok:kitCo.Ok Tryz.prog where
 cons:=all_cons qlq (all_cons qhi (all_cons q4u (all_cons (show cKey.lent.Holds Tryz.prog from key_holds) (all_cons q7z (all_cons q9m (all_cons qbt (all_cons qju all_nil)))))))
 ns:=all_cons qdx all_nil
 os:=all_cons qd0 all_nil
 fcs:=all_nil
 rcs:=all_nil
 inls:=q0m.more Tryz.func64 (by kernel_rfl) (by kernel_rfl) (q0m.more Tryz.func57 (by kernel_rfl) (by kernel_rfl) (q0m.more Tryz.func76 (by kernel_rfl) (by kernel_rfl) (q0m.more Tryz.func109 (by kernel_rfl) (by kernel_rfl)
  (q0m.more Tryz.func66 (by kernel_rfl) (by kernel_rfl) (q0m.more Tryz.func117 (by kernel_rfl) (by kernel_rfl) (q0m.more Tryz.func118 (by kernel_rfl) (by kernel_rfl) (q0m.more Tryz.func120 (by kernel_rfl) (by kernel_rfl)
  (q0m.more Tryz.func127 (by kernel_rfl) (by kernel_rfl) (q0m.more Tryz.func74 (by kernel_rfl) (by kernel_rfl) (q0m.more Tryz.func108 (by kernel_rfl) (by kernel_rfl) q0m.nil))))))))))
set_option maxRecDepth 100000000 in
theorem q6i:q8b.Holds Tryz.prog:=by
 refine holdsX (T:=kitCo) (fun p=>anCo upP (frT 14000) (frP 14000) ⟨p.1.1,p.1.2,p.2.1⟩ p.2.2) Tryz.func22 (by kernel_rfl) (by kernel_rfl) mixed (by kernel_rfl) kitCo_ok (fun _=>[]) fun p hp=>?_
 obtain ⟨⟨lang,ws⟩,c,book⟩:=p
 refine cast ?_ (proper_vc ⟨lang,ws,c⟩ book hp)
 kernel_rfl
end Go.Proofs.YtfecgebhoondjaaGreatDoor
set_option linter.unusedVariables false
namespace Go.Proofs.YtfecgebhoondjaaGreatDoor
open Go.RowKit
open R
def cGive:Con:=.of 35 [ckWl,ckCf,q4j,q7f,q7g] [q7f,.one (.int .i64)] (fun p=>q0d p.1∧q0h p.2.1∧q15 p.2.2.1∧p.2.2.2.1.1.length≤1000∧p.2.2.2.1.2.1.length≤1000000) (fun p=>Cod.Ear.q06 ⟨p.1.1,p.1.2,p.2.1⟩ p.2.2.1 p.2.2.2.1 p.2.2.2.2)
noncomputable def inlGi:List (Nat×Func):=inlCo++[(75,Tryz.f75),(77,Tryz.f77)]
noncomputable def kitGi:Kit:={ cons:=[qih,cPlaced,q7r,cKey.lent,qem,qe9,cNear,cNearG.lent],ns:=[nClone],os:=[qi7],inls:=inlGi }
def q8e (l:List Int):Row:=⟨3,.one (.int .i64),l⟩
namespace R
def thawC (st:St):Cell→Cell
 | .own r=>match st.row r with
  | some x=>.val (.sl x.fs) x.xs
  | none=>.any
 | c=>c
def Get.boxOfR (ks:Kds) (b:Nat) (st:St):ks.Pay:=match st.box b with
 | some cs=>match q1a ks (cs.map (thawC st)) with
  | some p=>p
  | none=>ks.dflt
 | none=>ks.dflt
def Get.cloOfR (ks:Kds) (t:Nat) (st:St):ks.Pay:=match st.get t with
 | .c (.one (.clo _ _ [(b,_)]))=>Get.boxOfR ks b st
 | _=>ks.dflt
def Get.rowI (r:Nat) (st:St):List Int:=match st.row r with
 | some y=>match y.fs.deq (.one (.int .i64)) with
  | some ⟨h⟩=>q3u h y.xs
  | none=>[]
 | none=>[]
def Get.slOf (fs:Kds) (t:Nat) (st:St):List fs.Pay:=match st.get t with
 | .c (.one (.val (.sl fs') xs))=>match fs'.deq fs with
  | some ⟨h⟩=>q3u h xs
  | none=>[]
 | _=>[]
end R
def R.Get.gAtR (F:Fr) (st:St):Cod.Giv:=Get.boxOfR kGiv (F.T+3) st
def R.q8w (o:Nat) (st:St) (m:q03):List (Nat×MRow):=[(lisO o+7,q5p m),(o+28,q43 (Get.mapOf q6v (.one .bool) (o+28) st))]
def upG:Up:={ o:=19000,fr:=[(75,[3,10,11,13,33,34,35,61]),(76,[2,4,5,8,10])],box:=[19003,19013,5,8,10],maps:=[] }
def upL:Up:={ o:=19000,fr:=[(76,[5,8,10,12])],box:=[5,8,10],maps:=[] }
def frG:Fr:={ T:=66000,n:=53,live:=[4],d:=33 }
abbrev giR:Nat:=61
def GiveAt (e:Cod.Ear) (book:q0k) (g:Cod.Giv) (s k:Nat) (nr:q03) (l:List Int):Prop:=k<e.ws.length ^ s∧q09 e nr∧l=Cod.dig e.ws.length s k∧∀ j,j<k→e.takes book (Cod.q1b g (Cod.dig e.ws.length s j))=false
def anGive (e:Cod.Ear) (book:q0k) (g:Cod.Giv) (s:Nat):List (Nat×Ann) :=
 [annX 1 (Nat×q03×List Int)
    (fun st p=>st.hd { live:=[5,8,10,12],sav:=[],box:=[5,8,10,lisO 19000+10,19031] } [] [] [(giR,q8e p.2.2)] (q8w 19000 st p.2.1) (some (q19 (Get.q17 st))))
    (fun _ p=>GiveAt e book g s p.1 p.2.1 p.2.2)
    (fun _ p=>e.ws.length ^ s-p.1),
 annX 2000010 q03
    (fun st p=>st.hd { live:=[5,8,10,12],sav:=[],box:=[5,8,10,lisO 19000+10,19031] } [] [] [(giR,q8e (Get.rowI giR st))] (q8w 19000 st p) (some (q19 (Get.q17 st))))
    (fun st p=>q09 e p∧e.takes book (Cod.q1b g (Get.rowI giR st))=false)
    (fun _ _=>0)]
def NextAt (n:Int) (l:List Int) (p:Nat) (r:List Int):Prop:=p≤l.length∧r=l.take (l.length-p)++List.replicate p 0∧(l.drop (l.length-p)).all (fun d=>decide (n≤d+1))=true
def anNext:List (Nat×Ann) :=
 [annX 0 (Nat×List Int)
    (fun st p=>st.hd { live:=[0,1,8],sav:=savK 0 [(76,[5,8,10,12])],box:=[5,8,10,lisO 19000+10,19031] } [(9,R.int .i64 p.1)] [] [(giR,q8e p.2)] (q8w 19000 st (Get.q4r upL st)) (some (q19 (Get.q17 st))))
    (fun st p=>NextAt (st.intOf 1) (Get.rowI giR st) p.1 p.2)
    (fun st p=>(Get.rowI giR st).length-p.1)]
def anIterG (e:Cod.Ear):List (Nat×Ann) :=
 [annX 0 (Nat×q03×q02×q04)
    (fun st p=>bif st.off.beq frG.it then st.hd (upL.keep frG [0,1,2,4,11,12] []) [(13,R.int .i64 p.1)] [] [(giR,q8e (Get.rowI giR st))] (q8w 19000 st p.2.1) (some (q19 (Get.q17 st)))
     else bif st.off.beq (frT 19000).it then st.hd (upG.keep (frT 19000) [0,1,2,4,11,12] []) [(13,R.int .i64 p.1)] [] [] (q40 upG st p.2.1) (some (q19 (Get.q17 st)))
     else st.hd (upG.keep (frP 19000) [0,1,2,4,11,12] []) [(13,R.int .i64 p.1)] [] [] (((frP 19000).T+14,q43 p.2.2.1)::q40 upG st p.2.1) (some (q19 p.2.2.2)))
    (fun st p=>bif st.off.beq frG.it then p.1≤(Get.gAtR frG st).2.1.length∧q09 e p.2.1∧(e.q0i (Get.gAtR frG st).2.1 p.1 0).all (q0w (Get.q6m upG st) (Get.q17 st) (Get.gAtR frG st))=true
     else bif st.off.beq (frT 19000).it then p.1≤(Get.gAt (frT 19000) st).2.1.length∧q09 e p.2.1∧(e.q0i (Get.gAt (frT 19000) st).2.1 p.1 0).all (q0w (Get.q6m upG st) (Get.q17 st) (Get.gAt (frT 19000) st))=true
     else p.1≤(Get.gAt (frP 19000) st).2.1.length∧q09 e p.2.1∧q0v (Get.seenAt (frP 19000) st) (Get.q17 st) (Get.gAt (frP 19000) st) (e.q0i (Get.gAt (frP 19000) st).2.1 p.1 0) p.2.2.1 p.2.2.2)
    (fun st p=>bif st.off.beq frG.it then (Get.gAtR frG st).2.1.length-p.1 else bif st.off.beq (frT 19000).it then (Get.gAt (frT 19000) st).2.1.length-p.1 else (Get.gAt (frP 19000) st).2.1.length-p.1),
 annX 2 (Nat×q02×q04)
    (fun st p=>bif st.off.beq frG.it then st.hd (upL.keep frG [0,1,2,4,5,6,11,12,13,20,21] []) [(22,R.int .i64 p.1)] [] [(giR,q8e (Get.rowI giR st))] (q8w 19000 st (Get.q4r upG st)) (some (q19 (Get.q17 st)))
     else bif st.off.beq (frT 19000).it then st.hd (upG.keep (frT 19000) [0,1,2,4,5,6,11,12,13,20,21] []) [(22,R.int .i64 p.1)] [] [] (q40 upG st (Get.q4r upG st)) (some (q19 (Get.q17 st)))
     else st.hd (upG.keep (frP 19000) [0,1,2,4,5,6,11,12,13,20,21] []) [(22,R.int .i64 p.1)] [] [] (((frP 19000).T+14,q43 p.2.1)::q40 upG st (Get.q4r upG st)) (some (q19 p.2.2)))
    (fun st p=>bif st.off.beq frG.it then p.1≤(e.near (st.intOf 6)).length∧(q0x e (Get.gAtR frG st).2.1 (st.intOf 5).toNat p.1).all (q0w (Get.q6m upG st) (Get.q17 st) (Get.gAtR frG st))=true
     else bif st.off.beq (frT 19000).it then p.1≤(e.near (st.intOf 6)).length∧(q0x e (Get.gAt (frT 19000) st).2.1 (st.intOf 5).toNat p.1).all (q0w (Get.q6m upG st) (Get.q17 st) (Get.gAt (frT 19000) st))=true
     else p.1≤(e.near (st.intOf 6)).length∧q0v (Get.seenAt (frP 19000) st) (Get.q17 st) (Get.gAt (frP 19000) st) (q0x e (Get.gAt (frP 19000) st).2.1 (st.intOf 5).toNat p.1) p.2.1 p.2.2)
    (fun st p=>(e.near (st.intOf 6)).length-p.1),
 annX 2000010 (q02×q04)
    (fun st p=>bif st.off.beq frG.it then st.hd (upL.keep frG [0,1,2,4,5,6,11,12,13] []) [] [] [(giR,q8e (Get.rowI giR st))] (q8w 19000 st (Get.q4r upG st)) (some (q19 (Get.q17 st)))
     else bif st.off.beq (frT 19000).it then st.hd (upG.keep (frT 19000) [0,1,2,4,5,6,11,12,13] []) [] [] [] (q40 upG st (Get.q4r upG st)) (some (q19 (Get.q17 st)))
     else st.hd (upG.keep (frP 19000) [0,1,2,4,5,6,11,12,13] []) [] [] [] (((frP 19000).T+14,q43 p.1)::q40 upG st (Get.q4r upG st)) (some (q19 p.2)))
    (fun st p=>bif st.off.beq frG.it then q0w (Get.q6m upG st) (Get.q17 st) (Get.gAtR frG st) ((Get.gAtR frG st).2.1.eraseIdx (st.intOf 5).toNat)=true
     else bif st.off.beq (frT 19000).it then q0w (Get.q6m upG st) (Get.q17 st) (Get.gAt (frT 19000) st) ((Get.gAt (frT 19000) st).2.1.eraseIdx (st.intOf 5).toNat)=true
     else q0v (Get.seenAt (frP 19000) st) (Get.q17 st) (Get.gAt (frP 19000) st) [(Get.gAt (frP 19000) st).2.1.eraseIdx (st.intOf 5).toNat] p.1 p.2)
    (fun _ _=>0)]
def anHeardG (e:Cod.Ear):List (Nat×Ann) :=
 [annX 2000005 (q03)
    (fun st p=>bif st.off.beq ((frG.it+21)*1000) then st.hd (upL.keep frG [] [(77,q7m)]) [(5,.c (.one (.val (.sl (.one (.int .i64))) (e.near (st.intOf 1)))))] [] [(giR,q8e (Get.rowI giR st))] (q8w 19000 st p) (some (q19 (Get.q17 st)))
     else bif st.off.beq (((frT 19000).it+21)*1000) then st.hd (upG.keep (frT 19000) [] [(77,q7m)]) [(5,.c (.one (.val (.sl (.one (.int .i64))) (e.near (st.intOf 1)))))] [] [] (q40 upG st p) (some (q19 (Get.q17 st)))
     else st.hd (upG.keep (frP 19000) [] [(77,q7m)]) [(5,.c (.one (.val (.sl (.one (.int .i64))) (e.near (st.intOf 1)))))] [] [] (((frP 19000).T+14,q43 (Get.seenAt (frP 19000) st))::q40 upG st p) (some (q19 (Get.q17 st))))
    (fun _ p=>q09 e p)
    (fun _ _=>0)]
abbrev offI:Nat:=54008000
abbrev offT:Nat:=66001752008000
def anFindG (door:List UInt8):List (Nat×Ann) :=
 [annX 0 (Nat)
    (fun st p=>bif st.off.beq offI then st.hd { live:=[0,1,7],sav:=savK 0 [(9,[]),(76,[2,4,5,8,10,12])],box:=[5,8,10,lisO 19000+10,19031] } [(8,R.int .i64 p)] [] [] (q8w 19000 st (Get.q4r upL st)) (some (q19 (Get.q17 st)))
     else bif st.off.beq offT then st.hd (upL.keep frG [0,1,7] [(9,[]),(frG.n,[2,3,4,43]),(77,q7m)]) [(8,R.int .i64 p)] [] [(giR,q8e (Get.rowI giR st))] (q8w 19000 st (Get.q4r upL st)) (some (q19 (Get.q17 st)))
     else st.hd (upG.keep (frT 19000) [0,1,7] [(9,[]),((frT 19000).n,[2,3,4,43]),(77,q7m)]) [(8,R.int .i64 p)] [] [] (q40 upG st (Get.q4r upG st)) (some (q19 (Get.q17 st))))
    (fun st p=>bif st.off.beq offI then p≤(Get.slOf kGiv 0 st).length∧((Get.slOf kGiv 0 st).take p).any (fun o=>o.1==door)=false
     else bif st.off.beq offT then p≤(Get.entOf kGiv 0 st).length∧((Get.entOf kGiv 0 st).take p).any (fun o=>Cod.q0q o (Get.cloOfR kGiv 1 st))=false
     else p≤(Get.entOf kGiv 0 st).length∧((Get.entOf kGiv 0 st).take p).any (fun o=>Cod.q0q o (Get.cloOf kGiv 1 st))=false)
    (fun st p=>bif st.off.beq offI then (Get.slOf kGiv 0 st).length-p else (Get.entOf kGiv 0 st).length-p)]
def anGi (e:Cod.Ear) (book:q0k) (g:Cod.Giv):Nat→List (Nat×Ann):=fun f =>
 bif Nat.beq f 57 then anShelve upG e book
 else bif Nat.beq f 117 then anIterG e
 else bif Nat.beq f 120 then anHeardG e
 else bif Nat.beq f 108 then anFindG g.1
 else bif Nat.beq f 77 then anNext
 else []
end Go.Proofs.YtfecgebhoondjaaGreatDoor
set_option linter.unusedVariables false
namespace Go.Proofs.YtfecgebhoondjaaGreatDoor
namespace Cod
theorem qkp {n:Int}:∀ (a r:List Int),a.all (fun d=>decide (n≤d+1))=true→bump n (a++r)=(List.replicate a.length 0++(bump n r).1,(bump n r).2)
 | [],r,_=>rfl
 | d::a,r,h=>by
  rw [List.all_cons,Bool.and_eq_true,decide_eq_true_eq] at h
  rw [List.cons_append,bump,decide_eq_false (by omega),qkp a r h.2]
  rfl
theorem all_rev {α:Type} (p:α→Bool) (l:List α):l.reverse.all p=l.all p:=List.all_reverse
theorem next_round {n:Int} {l:List Int} {p:Nat} (hp:p<l.length) (ht:(l.drop (l.length-p)).all (fun d=>decide (n≤d+1))=true) :
  (l.take (l.length-p)++List.replicate p 0).getD (l.length-1-p) 0=l.getD (l.length-1-p) 0 ∧
  (l.getD (l.length-1-p) 0+1<n→nextL n l=((l.take (l.length-p)++List.replicate p 0).set (l.length-1-p) (l.getD (l.length-1-p) 0+1),true)) ∧
  (n≤l.getD (l.length-1-p) 0+1→((l.take (l.length-p)++List.replicate p 0).set (l.length-1-p) (l.getD (l.length-1-p) 0+1)).set (l.length-1-p) 0=l.take (l.length-(p+1))++List.replicate (p+1) 0∧(l.drop (l.length-(p+1))).all (fun d=>decide (n≤d+1))=true):=by
 obtain ⟨k,hk⟩:∃ k,l.length=k+1+p:=⟨l.length-1-p,by omega⟩
 have e1:l.length-1-p=k:=by omega
 have e2:l.length-p=k+1:=by omega
 have e3:l.length-(p+1)=k:=by omega
 rw [e2] at ht
 rw [e1,e2,e3]
 clear e1 e2 e3
 have hkl:k<l.length:=by omega
 have tk:l.take (k+1)=l.take k++[l.getD k 0]:=Snd.q1n l 0 k hkl
 have hx:(l.take k).length=k:=by rw [List.length_take]; omega
 have dl:(l.drop (k+1)).length=p:=by rw [List.length_drop]; omega
 generalize hd:l.getD k 0=d at *
 have hl:l=l.take k++d::l.drop (k+1):=by
  have:=(List.take_append_drop (k+1) l).symm
  rw [tk,List.append_assoc,List.singleton_append] at this
  exact this
 generalize hxs:l.take k=x at *
 generalize hys:l.drop (k+1)=t at *
 rw [tk,List.append_assoc,List.singleton_append]
 have hset:∀ (v u:Int),(x++v::List.replicate p 0).set k u=x++u::List.replicate p 0:=fun v u=>by
  rw [List.set_append_right _ _ (by omega),hx,Nat.sub_self,List.set_cons_zero]
 refine ⟨?_,fun h=>?_,fun h=>⟨?_,?_⟩⟩
 ·rw [List.getD_eq_getElem?_getD,List.getElem?_append_right (by omega),hx,Nat.sub_self]; rfl
 ·rw [hset]
  unfold nextL
  rw [hl,List.reverse_append,List.reverse_cons,List.append_assoc,List.singleton_append,qkp _ _ (by rw [all_rev]; exact ht),bump,decide_eq_true h]
  show ((List.replicate t.reverse.length 0++(d+1)::x.reverse).reverse,true)=_
  rw [List.length_reverse,dl,List.reverse_append,List.reverse_cons,List.reverse_reverse,List.reverse_replicate,List.append_assoc,List.singleton_append]
 ·rw [hset,hset,List.replicate_succ]
 ·have:l.drop k=d::t:=by
   rw [hl,← hx,List.drop_left]
  rw [this,List.all_cons,ht,decide_eq_true h]; rfl
theorem qke {n:Int} {l:List Int} (ht:(l.drop (l.length-l.length)).all (fun d=>decide (n≤d+1))=true):(nextL n l).2=false:=by
 rw [Nat.sub_self,List.drop_zero] at ht
 unfold nextL
 have:=qkp l.reverse [] (by rw [all_rev]; exact ht)
 rw [List.append_nil] at this
 rw [this]; rfl
theorem tryG_at {e:Ear} {done:List Giv} {g:Giv} {s i:Nat} (ht:e.takes done (q1b g (dig e.ws.length s i))=true):∀ (f k:Nat),k≤i→i<k+f→(∀ j,j<i→e.takes done (q1b g (dig e.ws.length s j))=false)→e.tryG done g s f k=some (dig e.ws.length s i)
 | 0,k,h1,h2,_=>by omega
 | f+1,k,h1,h2,h3=>by
  rw [Ear.tryG]
  by_cases hk:k=i
  ·subst hk; rw [if_pos ht]
  ·rw [if_neg (by rw [h3 k (by omega)]; decide)]
   exact tryG_at ht f (k+1) (by omega) (by omega) h3
theorem tryG_not {e:Ear} {done:List Giv} {g:Giv} {s:Nat}:∀ (f k:Nat),(∀ j,j<k+f→e.takes done (q1b g (dig e.ws.length s j))=false)→e.tryG done g s f k=none
 | 0,k,_=>rfl
 | f+1,k,h=>by
  rw [Ear.tryG,if_neg (by rw [h k (by omega)]; decide)]
  exact tryG_not f (k+1) fun j hj=>h j (by omega)
theorem give_open {e:Ear} {book:List Giv} {g:Giv} {size:Int} (hp:e.proper book=true) (h3:¬ size<3) (h5:¬ 5<size) (hc:¬ 0<(g.2.1.length:Int)) (hn:Lx.q1l g.1=true) (hpl:q28 g=true) (ha:book.any (fun x=>x.1==g.1)=false) (hl:book.length≠20000) :
  e.q06 book g size=match e.tryG book g size.toNat (e.ws.length ^ size.toNat) 0 with
  | some c=>(q1b g c,0)
  | none=>(noG,22):=by
 unfold Ear.q06
 rw [hp,hn,hpl,decide_eq_false h3,decide_eq_false h5,decide_eq_false hc,ha,if_neg (by decide),if_neg (by decide),if_neg hl]
 rfl
theorem qad {e:Ear} {book:List Giv} {g:Giv} {size:Int} (h:(!(e.proper book)||decide (size<3)||decide (5<size)||decide (0<(g.2.1.length:Int))||!(Lx.q1l g.1)||!(q28 g))=true):e.q06 book g size=(noG,1):=by
 unfold Ear.q06
 rw [if_pos h]
theorem give_bad {e:Ear} {book:List Giv} {g:Giv} {size:Int} (h:e.proper book=false):e.q06 book g size=(noG,1):=qad (by rw [h]; rfl)
theorem give_twice {e:Ear} {book:List Giv} {g:Giv} {size:Int} (hp:e.proper book=true) (h3:¬ size<3) (h5:¬ 5<size) (hc:¬ 0<(g.2.1.length:Int)) (hn:Lx.q1l g.1=true) (hpl:q28 g=true) (ha:book.any (fun x=>x.1==g.1)=true):e.q06 book g size=(noG,8):=by
 unfold Ear.q06
 rw [hp,hn,hpl,decide_eq_false h3,decide_eq_false h5,decide_eq_false hc,ha,if_neg (by decide),if_pos rfl]
theorem give_full {e:Ear} {book:List Giv} {g:Giv} {size:Int} (hp:e.proper book=true) (h3:¬ size<3) (h5:¬ 5<size) (hc:¬ 0<(g.2.1.length:Int)) (hn:Lx.q1l g.1=true) (hpl:q28 g=true) (ha:book.any (fun x=>x.1==g.1)=false) (hl:book.length=20000):e.q06 book g size=(noG,22):=by
 unfold Ear.q06
 rw [hp,hn,hpl,decide_eq_false h3,decide_eq_false h5,decide_eq_false hc,ha,if_neg (by decide),if_neg (by decide),if_pos hl]
theorem ok_words {e:Ear} (h:e.ok=true):0<e.ws.length:=by
 unfold Ear.ok Snd.q0j at h
 simp only [Bool.and_eq_true,decide_eq_true_eq] at h
 omega
theorem ok_code {e:Ear} (h:e.ok=true) {s:Nat} (h3:3≤s) (h5:s≤5) (k:Nat):q0p e.lang e.ws (dig e.ws.length s k)=true:=by
 unfold q0p
 rw [dig_in (ok_words h),qe6,decide_eq_true (show (3:Int)≤(s:Int) by omega),decide_eq_true (show (s:Int)≤5 by omega)]
 unfold Ear.ok at h
 rw [Bool.and_eq_true] at h
 rw [h.1]; rfl
end Cod
end Go.Proofs.YtfecgebhoondjaaGreatDoor

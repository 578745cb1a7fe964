/-
  Several texts in one: R9A, R8N.
-/
import Derived.Test.YtlmbfijhkcmncaaGreatDoorPE
import Derived.Laws.OwnMore
open List renaming getElem?_eq_some_iff→Q0,getElem?_set→Q3,getElem?_eq_getElem→Q7,getElem?_toArray→Qa,getElem?_append_right→Qb,getElem?_append_left→Qc,foldl_cons→Qd,length_append→Qe,getElem?_take→Qf,getElem?_drop→Qg,length_set→Qj,getElem_of_mem→Qk,length_eq_zero_iff→Qr,getElem_replicate→Qs,replicate→Qu,length_replicate→Qv,range→Qx,mem_singleton→QK,getElem?_map→QL,length_take→QQ,length_drop→QR
open Nat renaming mul_le_mul_right→Q8,add_mul→Q9,one_mul→Qh,lt_of_lt_of_le→Ql,succ_lt_succ→Qo,mul_comm→Qp,div_lt_of_lt_mul→Qy,add_assoc→Qz,succ_pos→QF,eq_zero_or_pos→QH,one_pos→QO,le_refl→QP,mod_lt→QU,div_add_mod→QV
open Go.Builtin renaming append_→Qi,firstCells→QG,lenOf→QY
open Array renaming getElem?_eq_some_iff→Qm,size_setIfInBounds→Qq,getElem?_modify→Qt,getElem?_toList→Qw,length_toList→QA,getElem?_push→QE,toList_push→QN
open Go.Result renaming andThen_ok→Qn
open Go.World.ownsRow renaming cells→QC
open Go.World renaming grownBy_alloc→QD
open Go.Sem renaming run_bind→QJ
open Go.Instr renaming buildSlice→QS
open Go.Obj renaming map→QW
set_option linter.unusedVariables false
namespace Go.Proofs.YtlmbfijhkcmncaaGreatDoor
open Go.RowKit
namespace R
section
variable {w0:Base} {w w':World} {κ:Cx} {st:St} {a:Act} {P:Program}
theorem Kds.fld_lt:∀ (fs:Kds) (x:fs.Pay) (f:Nat),f<fs.size→∃ z,fs.fld x f=some z
 | .one k,x,0,h=>⟨_,rfl⟩
 | .one k,x,f+1,h=>by simp [Kds.size] at h
 | .cons k ks,x,0,h=>⟨_,rfl⟩
 | .cons k ks,x,f+1,h=>Kds.fld_lt ks x.2 f (by simpa [Kds.size] using h)
theorem Kds.q7w:∀ (fs:Kds) (x:fs.Pay) (f:Nat) z,fs.fld x f=some z→f<fs.size
 | .one k,x,0,z,h=>QO
 | .one k,x,f+1,z,h=>by cases h
 | .cons k ks,x,0,z,h=>QF _
 | .cons k ks,x,f+1,z,h=>Qo (Kds.q7w ks x.2 f z h)
theorem q54 {e:TypeId} {t ty:TypeId} {i:TypeInfo} {size base:Nat} (ht:P.underlying t=some (.slice e)) (hi:P.info? e=some i) {v:Value} {n:Nat} {xs:List Value} (hown:w.ownsRow base e size v n xs) (c:Nat) :
  (Qi #[t,t] ty #[v,.slice none 0 c]).run P w=.ok v w:=by
 rcases hown.2 with ⟨rfl,rfl⟩ | ⟨g,cap,cur,rfl,_,_,hnc,_⟩
 ·simp [Qi,run_underlying ht,sizeOf,typeInfo,hi,QY,QG]
 ·simp [Qi,run_underlying ht,sizeOf,typeInfo,hi,QY,QG,hnc,storeCells]
theorem q6c {base:Nat} {t ty e:TypeId} {i:TypeInfo} {z:Value} (ht:P.underlying t=some (.slice e)) (hi:P.info? e=some i) (hz:i.zero=some z) (hzs:z.cells.size=i.size) (hsz:0<i.size)
  {v:Value} {n:Nat} {xs:List Value} (hown:w.ownsRow base e i.size v n xs) {ad:Addr} {m c:Nat} {news:List Value} (hl:news.length=m*i.size) (hnews:∀ j u,news[j]? = some u→w.cell? (ad.add j)=some u) (h1:∀ u∈news,u.oneCell'=true)
  (h63:n+m≤maxLen) (hbytes:(n+m)*i.bytes≤140737488355328) (hbase:base≤w.heap.size) :
  ∃ v' w' row,(Qi #[t,t] ty #[v,.slice (some ad) m c]).run P w=.ok v' w'∧w'.ownsRow base e i.size v' (n+m) (xs++news)∧w.grownBy w' row ∧
   (∀ g,row=some g→v.ownBlock=some g)∧∀ g,v'.ownBlock=some g→(row=some g∧v.ownBlock=some g)∨w.heap.size≤g:=by
 rcases hown.2 with ⟨rfl,rfl⟩ | ⟨g,cap,cur,rfl,hg1,hg2,hnc,hcm,hcs,hct⟩
 ·
  have hx:xs=[]:=by have:=hown.1;simpa using this
  subst hx;obtain ⟨v',w',hrun,ho,hgr,_⟩:=run_append_own (P:=P) w w.heap.size t ty e i z i.size i.bytes ht hi hz rfl rfl hzs hsz (.slice none 0 0) 0 [] (World.ownsRow_nil _ _ _ _) ad m c news hl hnews h1 h63 hbytes (QP _);exact ⟨v',w',none,hrun,q6u ho hbase,hgr,(λg h=>nomatch h),λg h=>Or.inr (q2r ho g h)⟩
 ·by_cases hr:n+m≤cap
  ·have hfit:n*i.size+news.length≤cur.size:=by rw [hl,hcs,← Q9];exact Q8 _ hr
   have hrun:=run_append_room (P:=P) w t ty e i ht hi g n cap cur hg2 ad m c news hl hnews h1 hr hfit;have hlen:xs.length=n*i.size:=hown.1;have htake:cur.toList.take (n*i.size)=xs:=by rw [← hlen];rw [hlen];exact hct
   refine ⟨_,_,some g,hrun,?_,?_,λg' h=>by injection h with h;subst h;rfl,λg' h=>.inl ?_⟩
   ·refine ⟨by rw [Qe,hlen,hl,Q9],.inr ⟨g,cap,(cur.toList.take (n*i.size)++news++cur.toList.drop (n*i.size+news.length)).toArray,rfl,hg1,?_,hr,hcm,?_,?_⟩⟩
    ·simp only [World.setRow,Qt]
     simp [hg2]
    ·have:(cur.toList.take (n*i.size)++news++cur.toList.drop (n*i.size+news.length)).length=cur.size:=by
      rw [Qe,Qe,QQ,QR,QA];omega
     simpa [hcs] using this
    ·rw [List.toList_toArray,htake]
     have:(n+m)*i.size=(xs++news).length:=by rw [Qe,hlen,hl,Q9]
     rw [this,List.take_left]
   ·exact ⟨rfl,rfl,rfl,by simp,λk hk hne=>by
     simp only [World.setRow,Qt];rw [if_neg (λe=>hne (by rw [e]))]⟩
   ·have:g=g':=by simpa [Value.ownBlock] using h
    subst this;exact ⟨rfl,rfl⟩
  ·have holds:=QC hown (g:=g) rfl
   obtain ⟨v',w',hrun,ho,hgr⟩:=run_append_arg_grows (P:=P) w t ty e i z i.size i.bytes ht hi hz rfl rfl hzs hsz ⟨g,0,none⟩ n cap xs hown.1 holds ad m c news hl hnews (by omega) h63 hbytes
   exact ⟨v',w',none,hrun,q6u ho hbase,hgr,(λg h=>nomatch h),λg h=>Or.inr (q2r ho g h)⟩
theorem src_cells {fs:Kds} {zs:List fs.Pay} {S:Nat→Prop} {v:Value} (h:(Kd.sl fs).Rep w S zs v):(∃ c,v=.slice none 0 c∧zs=[])∨∃ (ad:Addr) (c:Nat) (news:List Value),v=.slice (some ad) zs.length c∧news.length=zs.length*fs.size∧(∀ j u,news[j]? = some u→w.cell? (ad.add j)=some u)∧(∀ u∈news,u.oneCell'=true) ∧
  ∀ (i:Nat) (x:fs.Pay),zs[i]? = some x→∀ (f:Nat) z,fs.fld x f=some z→∃ u,news[i*fs.size+f]? = some u∧z.1.Rep w S z.2 u:=by
 obtain ⟨A,c,rfl,hcap,hrow⟩:=h;rcases QH (zs:List fs.Pay).length with h0 | hpos
 ·have hz:zs=[]:=Qr.1 h0
  cases A with
  | none=>exact .inl ⟨c,by rw [h0],hz⟩
  | some ad=>refine .inr ⟨ad,c,[],rfl,by rw [h0];simp,λj u h=>by simp at h,λu h=>by simp at h,λi x h=>by rw [hz] at h;simp at h⟩
 ·obtain ⟨g,off,rfl,hg,hS,hc⟩:=hrow hpos
  let news:=(Qx ((zs:List fs.Pay).length*fs.size)).map λj=>(w.cell? ⟨g,off+j,none⟩).getD Go.undef
  have hat:∀ (i:Nat) (x:fs.Pay),zs[i]? = some x→∀ (f:Nat) z,fs.fld x f=some z→∃ u,w.cell? ⟨g,off+(i*fs.size+f),none⟩=some u∧z.1.Rep w S z.2 u:=λi x hx f z hz=>by
   obtain ⟨u,hu,hr⟩:=Kds.Rep.fld fs x g _ f z (hc i x hx) hz;exact ⟨u,by rw [← Qz];exact hu,hr⟩
  have hcell:∀ j,j<(zs:List fs.Pay).length*fs.size→∃ u,w.cell? ⟨g,off+j,none⟩=some u∧u.oneCell'=true:=λj hj=>by
   have hfs:=Kds.q80 fs;have hi:j / fs.size<(zs:List fs.Pay).length:=Qy (by rw [Qp];exact hj)
   obtain ⟨z,hz⟩:=Kds.fld_lt fs (zs:List fs.Pay)[j / fs.size] (j % fs.size) (QU _ hfs);obtain ⟨u,hu,hr⟩:=hat (j / fs.size) _ (Q7 hi) (j % fs.size) z hz;rw [Qp,QV] at hu;exact ⟨u,hu,Kd.Rep.q67 hr⟩
  have hnews:∀ j,j<(zs:List fs.Pay).length*fs.size→∃ u,news[j]? = some u∧w.cell? ⟨g,off+j,none⟩=some u∧u.oneCell'=true:=λj hj=>by
   obtain ⟨u,hu,ho⟩:=hcell j hj;refine ⟨u,?_,hu,ho⟩;show ((Qx _).map _)[j]? = _;rw [QL,List.getElem?_range hj];show some ((w.cell? ⟨g,off+j,none⟩).getD Go.undef)=_;rw [hu];rfl
  have hlen:news.length=(zs:List fs.Pay).length*fs.size:=by simp [news]
  refine .inr ⟨⟨g,off,none⟩,c,news,rfl,hlen,λj u hj=>?_,λu hu=>?_,λi x hx f z hz=>?_⟩
  ·have hlt:j<news.length:=(Q0.1 hj).1
   obtain ⟨u',h1,h2,_⟩:=hnews j (by rw [← hlen];exact hlt)
   rw [hj] at h1;injection h1 with h1;subst h1;rw [add_plain2];exact h2
  ·obtain ⟨j,hj,rfl⟩:=Qk hu
   obtain ⟨u',h1,_,h3⟩:=hnews j (by rw [← hlen];exact hj)
   rw [Q7 hj] at h1;injection h1 with h1;rw [h1];exact h3
  ·obtain ⟨u,hu,hr⟩:=hat i x hx f z hz
   have hlt:i*fs.size+f<(zs:List fs.Pay).length*fs.size:=by
    have h1:i<(zs:List fs.Pay).length:=(Q0.1 hx).1;have h2:=Kds.q7w fs x f z hz
    calc i*fs.size+f<i*fs.size+fs.size:=by omega
     _=(i+1)*fs.size:=by rw [Q9,Qh]
     _≤_:=Q8 _ h1
   obtain ⟨u',h1,h2,_⟩:=hnews _ hlt;rw [hu] at h2;injection h2 with h2;subst h2;exact ⟨u,h1,hr⟩
theorem q8w {fs:Kds} {xs ys:List fs.Pay} {c1 c2:List Value} (hl:c1.length=xs.length*fs.size) (h1:q0k κ w fs xs c1) (h2:q0k κ w fs ys c2):q0k κ w fs (xs++ys) (c1++c2):=by
 intro i x hx f z hz;have hf:=Kds.q7w fs x f z hz;rcases Nat.lt_or_ge i xs.length with h | h
 ·rw [Qc h] at hx
  obtain ⟨u,hu,hr⟩:=h1 i x hx f z hz;refine ⟨u,?_,hr⟩;rw [Qc]
  ·exact hu
  ·exact (Q0.1 hu).1
 ·rw [Qb h] at hx
  obtain ⟨u,hu,hr⟩:=h2 _ x hx f z hz;refine ⟨u,?_,hr⟩;have he:i*fs.size+f=c1.length+((i-xs.length)*fs.size+f):=by
   rw [hl,← Qz,← Q9]
   congr 2;omega
  rw [he,Qb (by omega),Nat.add_sub_cancel_left]
  exact hu
theorem q6v {e:TypeId} {size bytes:Nat} (h:q77 P e=some (size,bytes)):∃ i z,P.info? e=some i∧i.zero=some z∧z.cells.size=i.size∧0<i.size∧0<i.bytes∧i.size=size∧i.bytes=bytes∧z.cells.toList.all (·.oneCell')=true:=by
 unfold q77 at h;cases hi:P.info? e with
 | none=>rw [hi] at h;cases h
 | some i =>
  rw [hi] at h;dsimp only at h;cases hz:i.zero with
  | none=>rw [hz] at h;cases h
  | some z =>
   rw [hz] at h;dsimp only at h;cases hb:z.cells.size.beq i.size&&Nat.blt 0 i.size&&Nat.blt 0 i.bytes&&z.cells.toList.all (·.oneCell')
   ·rw [hb] at h;cases h
   ·rw [hb] at h
    injection h with h;injection h with h1 h2;simp only [Bool.and_eq_true] at hb;obtain ⟨⟨⟨b1,b2⟩,b3⟩,b4⟩:=hb;exact ⟨i,z,rfl,hz,Nat.eq_of_beq_eq_true b1,by rw [Nat.blt_eq] at b2;exact b2,by rw [Nat.blt_eq] at b3;exact b3,h1,h2,b4⟩
theorem qia (hR:Rel w0 κ st a w) {e:TypeId} {A:AV} {z:Row} (h:srcOf st e A=some z) {v:Value} (hv:A.Rep κ w v):(∃ c,v=.slice none 0 c∧z.xs=[])∨∃ (ad:Addr) (c:Nat) (news:List Value),v=.slice (some ad) z.xs.length c∧news.length=z.xs.length*z.fs.size ∧
  (∀ j u,news[j]? = some u→w.cell? (ad.add j)=some u)∧(∀ u∈news,u.oneCell'=true)∧q0k κ w z.fs z.xs news:=by
 unfold srcOf at h;split at h
 ·rename_i r
  obtain ⟨rfl,_⟩:=hv;obtain ⟨cells,ho,hc,_⟩:=hR.row r z h;rcases ho.2 with ⟨hv,h0⟩ | ⟨g,cap,cur,hv,h2,h3,h4⟩
  ·exact .inl ⟨0,hv,Qr.1 h0⟩
  ·have hcell:=QC ho (g:=g) (by rw [hv];rfl)
   refine .inr ⟨⟨g,0,none⟩,cap,cells,hv,ho.1,hcell,λu hu=>?_,hc⟩
   obtain ⟨j,hj,rfl⟩:=Qk hu;have hj':j<z.xs.length*z.fs.size:=by rw [← ho.1];exact hj
   have hfs:=Kds.q80 z.fs;have hi:j / z.fs.size<z.xs.length:=Qy (by rw [Qp];exact hj')
   obtain ⟨y,hy⟩:=Kds.fld_lt z.fs z.xs[j / z.fs.size] (j % z.fs.size) (QU _ hfs);obtain ⟨u,hu2,hr⟩:=hc (j / z.fs.size) _ (Q7 hi) (j % z.fs.size) y hy;rw [Qp,QV,Q7 hj] at hu2;injection hu2 with hu2;rw [hu2];exact Kd.Rep.q67 hr
 ·injection h with h;subst h
  rcases src_cells (S:=κ.S) hv with h | ⟨ad,c,news,h1,h2,h3,h4,h5⟩
  ·exact .inl h
  ·exact .inr ⟨ad,c,news,h1,h2,h3,h4,h5⟩
 ·cases h
theorem qbc {base:Nat} {e:TypeId} {size n:Nat} {v:Value} {xs:List Value} (ho:w.ownsRow base e size v n xs):v.oneCell'=true:=by
 obtain ⟨A,c,rfl⟩:=q2k ho;rfl
theorem q37 (hR:Rel w0 κ st a w) {r d:Nat} (hd:d<st.n) {v':Value} {x:Row} {cells:List Value} {row:Option Nat} (hg:w.grownBy w' row) (hrow:∀ g,row=some g→(κ.ρ r).ownBlock=some g∧(st.row r).isSome=true)
  (hown:w'.ownsRow w0.n0 x.e x.fs.size v' x.xs.length cells) (hcells:q0k κ w x.fs x.xs cells)
  (hnew:∀ g,v'.ownBlock=some g→(row=some g∧(κ.ρ r).ownBlock=some g)∨w.heap.size≤g) :
  ∃ κ',Rel w0 κ' ((st.setRow r x).set d (.c (.one (.own r)))) (a.put (some d) v') w':=by
 have h:=hR.setRow hg hrow hown hcells hnew;refine ⟨_,h.set hd (v:=.c (.one (.own r))) ?_⟩;show v'=(if r=r then v' else κ.ρ r)∧_
 rw [if_pos rfl];exact ⟨rfl,qbc hown⟩
theorem grownBy_refl (w:World) (row:Option Nat):w.grownBy w row:=⟨rfl,rfl,rfl,QP _,λ_ _ _=>rfl⟩
theorem qgj:∀ (fs:Kds) (x:fs.Pay) (f:Nat) z,fs.fld x f=some z→(fs.cells x)[f]? = some (.val z.1 z.2)
 | .one k,x,0,z,h=>by injection h with h;subst h;rfl
 | .one k,x,f+1,z,h=>by cases h
 | .cons k ks,x,0,z,h=>by injection h with h;subst h;rfl
 | .cons k ks,x,f+1,z,h=>qgj ks x.2 f z h
theorem cells_len:∀ (fs:Kds) (x:fs.Pay),(fs.cells x).length=fs.size
 | .one k,x=>rfl
 | .cons k ks,x=>congrArg (·+1) (cells_len ks x.2)
theorem q9m {fs:Kds}:∀ (n:Nat) (l:List Cell) (xs:List fs.Pay) (us:List Value),qbu fs n l=some xs→q06 κ w l us.toArray→xs.length=n∧us.length=n*fs.size∧q0k κ w fs xs us
 | 0,[],xs,us,h,hu=>by
  injection h with h;subst h;have:us=[]:=by have:=hu.1;simpa using this
  subst this;exact ⟨rfl,by simp,λi x hx=>by cases hx⟩
 | 0,_::_,xs,us,h,hu=>by cases h
 | n+1,l,xs,us,h,hu=>by
  have h:(match q1e fs (l.take fs.size),qbu fs n (l.drop fs.size) with
   | some x,some xs=>some (x::xs)
   | _,_=>none)=some xs:=h
  split at h
  ·rename_i x ys h1 h2
   injection h with h;subst h;have hlen:us.length=l.length:=hu.1;have hc1:q06 κ w (l.take fs.size) (us.take fs.size).toArray:=by
    refine ⟨by simp [hlen],λi c hc=>?_,λi v hv=>?_⟩
    ·rw [Qf] at hc
     split at hc
     ·rename_i hi
      obtain ⟨v,hv,hr⟩:=hu.2.1 i c hc;exact ⟨v,by rw [Qa,Qf,if_pos hi];simpa using hv,hr⟩
     ·cases hc
    ·rw [Qa,Qf] at hv
     split at hv
     ·exact hu.2.2 i v (by simpa using hv)
     ·cases hv
   have hc2:q06 κ w (l.drop fs.size) (us.drop fs.size).toArray:=⟨by simp [hlen],λi c hc=>by
    rw [Qg] at hc;obtain ⟨v,hv,hr⟩:=hu.2.1 _ c hc;exact ⟨v,by rw [Qa,Qg];simpa using hv,hr⟩,λi v hv=>by
    rw [Qa,Qg] at hv;exact hu.2.2 _ v (by simpa using hv)⟩
   have hx:=q4d fs _ x _ h1 hc1;obtain ⟨e1,e2,e3⟩:=q9m n _ ys _ h2 hc2;have hxl:(us.take fs.size).length=fs.size:=by
    have:=hx.1
    rw [cells_len] at this
    simpa using this
   have hge:fs.size≤us.length:=by rw [QQ] at hxl;omega
   refine ⟨by simp [e1],?_,λi y hy f z hz=>?_⟩
   ·rw [QR] at e2
    rw [Q9,Qh];omega
   ·cases i with
    | zero =>
     injection hy with hy;subst hy;obtain ⟨u,hu',hr⟩:=hx.2.1 f _ (qgj fs x f z hz);refine ⟨u,?_,hr⟩;rw [Qa,Qf] at hu';split at hu'
     ·rw [Nat.zero_mul,Nat.zero_add];exact hu'
     ·cases hu'
    | succ i =>
     obtain ⟨u,hu',hr⟩:=e3 i y hy f z hz;refine ⟨u,?_,hr⟩;rw [Qg] at hu';rw [Q9,Qh,show i*fs.size+fs.size+f=fs.size+(i*fs.size+f) by omega]
     exact hu'
  ·cases h
theorem run_buildSlice {t e:TypeId} {len size bytes:Nat} (ht:P.underlying t=some (.slice e)) (hinfo:q77 P e=some (size,bytes)) (hR:Rel w0 κ st a w) {parts:Array (Nat×Operand)} {l:List Cell}
  (hl:q53 st ((Qx len).map λi=>(i*size,size)) (Qu (len*size) .any) parts.toList=some l) (hsm:len*size≤16777216) :
  ∃ us:Array Value,(QS t len (parts.map λ(i,x)=>(i,a.eval x))).run P w=.ok (.slice (some ⟨w.heap.size,0,none⟩) len len) (w.alloc (.cells us e))∧q06 κ w l us:=by
 obtain ⟨i,z,hi,hz,hzs,hsz,hby,rfl,rfl,hone⟩:=q6v hinfo
 let zero:Array Value:=if len*i.size=0 then #[] else z.cells
 let base:Array Value:=(Array.range (len*i.size)).map λk=>zero[k % zero.size]!
 have hbase:q06 κ w (Qu (len*i.size) .any) base:=by
  refine ⟨by simp [base],λk c hc=>?_,λk v hv=>?_⟩
  ·obtain ⟨hk,rfl⟩:=Q0.1 hc
   rw [Qv] at hk;refine ⟨zero[k % zero.size]!,?_,?_⟩
   ·simp [base,hk]
   ·rw [Qs];trivial
  ·have hk:k<len*i.size:=by
    have:=(Qm.1 hv).1
    simpa [base] using this
   have hv':v=zero[k % zero.size]! := by
    have:base[k]? = some (zero[k % zero.size]!):=by simp [base,hk]
    rw [this] at hv;injection hv with hv;exact hv.symm
   have hzero:zero=z.cells:=if_neg (by omega)
   have hlt:k % zero.size<zero.size:=QU _ (by rw [hzero,hzs];exact hsz)
   rw [hv',getElem!_pos zero _ hlt];refine List.all_eq_true.1 hone _ ?_;have:=Array.getElem_mem hlt;rw [← hzero];exact Array.mem_toList_iff.2 this
 obtain ⟨us,hfill,hus⟩:=q7x hR _ (λk=>some (k*i.size,i.size)) (λk q hq=>by
  rw [QL] at hq;cases hk:(Qx len)[k]? with
  | none=>rw [hk] at hq;cases hq
  | some j =>
   rw [hk] at hq;have:j=k:=by
    have:=(Q0.1 hk).2
    rw [← this,List.getElem_range]
   subst this;exact hq) parts.toList _ l base hl hbase
 refine ⟨us,?_,hus⟩;have hfill':Instr.fill (λk=>some (k*i.size,i.size)) base (parts.map λ(i,x)=>(i,a.eval x)).toList=some us:=by
  rw [← hfill];congr 1;simp
 have hsize:(Go.sizeOf e).run P w=.ok i.size w:=by simp [Go.sizeOf,typeInfo,hi]
 have hzv:(zeroValue e).run P w=.ok z w:=by simp [zeroValue,typeInfo,hi,hz]
 have hn:¬ len*i.size>2 ^ 24:=by omega
 have hfill2:∀ zz:Array Value,zero=zz→Instr.fill (λk=>some (k*i.size,i.size)) ((Array.range (len*i.size)).map λx=>zz[x % zz.size]!) (parts.map λx=>(x.fst,a.eval x.snd)).toList=some us:=λzz hzz=>by
  subst hzz;exact hfill'
 unfold QS;simp only [QJ,run_underlying ht,Qn,hsize,if_neg hn];by_cases h0:len*i.size=0
 ·rw [if_pos h0]
  simp only [QJ,Sem.run_pure,Qn];rw [hfill2 #[] (if_pos h0)];simp [newRow]
 ·rw [if_neg h0]
  simp only [QJ,Sem.run_pure,Qn,hzv];rw [hfill2 z.cells (if_neg h0)];simp [newRow]
theorem qib {c:Cell} {v:Value} (hv:c.Rep κ w v):∀ (fs:Kds) (x x':fs.Pay) (f:Nat),fs.q8t x f c=some x'→f<fs.size∧(∃ z,fs.fld x' f=some z∧z.1.Rep w κ.S z.2 v)∧∀ f',f'≠f→fs.fld x' f'=fs.fld x f'
 | .one k,x,x',0,h=>by
  have h:q3c k c=some x':=h;exact ⟨QO,⟨⟨k,x'⟩,rfl,q5o h hv⟩,λf' hf=>by cases f' with | zero=>exact absurd rfl hf | succ f'=>rfl⟩
 | .one k,x,x',f+1,h=>by cases h
 | .cons k ks,x,x',0,h=>by
  have h:(match q3c k c with | some y=>some (y,x.2) | none=>none)=some x':=h
  split at h
  ·rename_i y hy
   injection h with h;subst h;exact ⟨QF _,⟨⟨k,y⟩,rfl,q5o hy hv⟩,λf' hf=>by cases f' with | zero=>exact absurd rfl hf | succ f'=>rfl⟩
  ·cases h
 | .cons k ks,x,x',f+1,h=>by
  have h:(match ks.q8t x.2 f c with | some y=>some (x.1,y) | none=>none)=some x':=h
  split at h
  ·rename_i y hy
   injection h with h;subst h;obtain ⟨h1,h2,h3⟩:=qib hv ks x.2 y f hy;refine ⟨Qo h1,h2,λf' hf=>?_⟩
   cases f' with
   | zero=>rfl
   | succ f'=>exact h3 f' (λe=>hf (by rw [e]))
  ·cases h
theorem rowCells_set {fs:Kds} {xs:List fs.Pay} {cells:List Value} {i f:Nat} {x x':fs.Pay} {c:Cell} {v:Value} (h:q0k κ w fs xs cells) (hlen:cells.length=xs.length*fs.size) (hi:xs[i]? = some x) (hs:fs.q8t x f c=some x') (hv:c.Rep κ w v) :
  q0k κ w fs (xs.set i x') (cells.set (i*fs.size+f) v):=by
 obtain ⟨hf,⟨z0,hz0,hr0⟩,hoth⟩:=qib hv fs x x' f hs;have hil:i<xs.length:=(Q0.1 hi).1;have hpos:=Kds.q80 fs;have hle:i*fs.size+f<cells.length:=by
  rw [hlen];have:(i+1)*fs.size≤xs.length*fs.size:=Q8 _ hil;rw [Q9,Qh] at this;omega
 intro j y hy f' z hz;have hf':=Kds.q7w fs y f' z hz;rw [Q3] at hy;by_cases e:i=j
 ·subst e
  rw [if_pos rfl,if_pos hil] at hy;injection hy with hy;subst hy;by_cases ef:f'=f
  ·subst ef
   rw [hz0] at hz;injection hz with hz;subst hz;exact ⟨v,by rw [Q3,if_pos rfl,if_pos hle],hr0⟩
  ·rw [hoth f' ef] at hz
   obtain ⟨u,hu,hr⟩:=h i x hi f' z hz;exact ⟨u,by rw [Q3,if_neg (by omega)];exact hu,hr⟩
 ·rw [if_neg e] at hy
  obtain ⟨u,hu,hr⟩:=h j y hy f' z hz;refine ⟨u,?_,hr⟩;rw [Q3,if_neg (λe2=>e ?_)]
  ·exact hu
  ·have e3:=congrArg (· / fs.size) e2
   have q:∀ a b:Nat,b<fs.size→(a*fs.size+b) / fs.size=a:=λa b hb=>by
    rw [Nat.add_comm,Nat.add_mul_div_right _ _ hpos,Nat.div_eq_of_lt hb,Nat.zero_add]
   have e4:(i*fs.size+f) / fs.size=(j*fs.size+f') / fs.size:=e3
   rwa [q i f hf,q j f' hf'] at e4
theorem qfo {fs:Kds} {i:Nat}:∀ (l:List Cell) (vs:List Value) (k f:Nat) (xs:List fs.Pay) (cells:List Value) (x x':fs.Pay),q0k κ w fs xs cells→cells.length=xs.length*fs.size→xs[i]? = some x→fs.q9f x (f+k) l=some x'→q06 κ w l vs.toArray →
  q0k κ w fs (xs.set i x') ((vs.zipIdx k).foldl (λcs (c,j)=>cs.set (i*fs.size+f+j) c) cells)
 | [],vs,k,f,xs,cells,x,x',h,hlen,hi,hs,hv=>by
  obtain rfl:vs=[]:=by have:=hv.1;simpa using this
  injection hs with hs;subst hs;have:xs.set i x=xs:=by
   refine List.ext_getElem? λj=>?_
   rw [Q3];by_cases e:i=j
   ·subst e
    rw [if_pos rfl,if_pos (Q0.1 hi).1,hi]
   ·rw [if_neg e]
  rw [this];exact h
 | c::l,vs,k,f,xs,cells,x,x',h,hlen,hi,hs,hv=>by
  cases vs with
  | nil=>have:=hv.1;simp at this
  | cons v vs =>
   have hs:(match fs.q8t x (f+k) c with | some q=>fs.q9f q (f+k+1) l | none=>none)=some x':=hs
   split at hs
   ·rename_i q hq
    have hcv:c.Rep κ w v:=by
     obtain ⟨y,hy,hr⟩:=hv.2.1 0 c rfl;injection hy with hy;subst hy;exact hr
    have hv':q06 κ w l vs.toArray:=⟨by have:=hv.1;simpa using this,λi c hc=>by
     obtain ⟨y,hy,hr⟩:=hv.2.1 (i+1) c hc;exact ⟨y,by simpa using hy,hr⟩,λi y hy=>hv.2.2 (i+1) y (by simpa using hy)⟩
    have h1:=rowCells_set h hlen hi hq hcv;have hil:=(Q0.1 hi).1;have h2:=qfo l vs (k+1) f (xs.set i q) (cells.set (i*fs.size+(f+k)) v) q x' h1 (by rw [Qj,Qj];exact hlen) (by rw [Q3,if_pos rfl,if_pos hil]) hs hv'
    rw [List.set_set] at h2;rw [← Qz] at h2;rw [List.zipIdx_cons,Qd];exact h2
   ·cases hs
theorem qen (off m:Nat):∀ (vs:List (Value×Nat)) (us:Array Value) (xs:List Value),us.toList.take m=xs→(vs.foldl (λcs (c,j)=>cs.setIfInBounds (off+j) c) us).toList.take m=vs.foldl (λcs (c,j)=>cs.set (off+j) c) xs
 | [],us,xs,h=>h
 | (v,j)::r,us,xs,h=>by
  rw [Qd,Qd];refine qen off m r _ _ ?_;rw [Array.toList_setIfInBounds,← h,List.take_set]
theorem qel (off:Nat):∀ (vs:List (Value×Nat)) (us:Array Value),(vs.foldl (λcs (c,j)=>cs.setIfInBounds (off+j) c) us).size=us.size
 | [],us=>rfl
 | (v,j)::r,us=>by rw [Qd,qel off r];exact Qq
theorem foldl_len (off:Nat):∀ (vs:List (Value×Nat)) (xs:List Value),(vs.foldl (λcs (c,j)=>cs.set (off+j) c) xs).length=xs.length
 | [],xs=>rfl
 | (v,j)::r,xs=>by rw [Qd,foldl_len off r];exact Qj
theorem setFld_lt {c:Cell}:∀ (fs:Kds) (x x':fs.Pay) (f:Nat),fs.q8t x f c=some x'→f<fs.size
 | .one k,x,x',0,h=>QO
 | .one k,x,x',f+1,h=>by cases h
 | .cons k ks,x,x',0,h=>QF _
 | .cons k ks,x,x',f+1,h=>by
  have h:(match ks.q8t x.2 f c with | some y=>some (x.1,y) | none=>none)=some x':=h
  split at h
  ·rename_i y hy
   exact Qo (setFld_lt ks x.2 y f hy)
  ·cases h
theorem qkt {fs:Kds}:∀ (l:List Cell) (x x':fs.Pay) (f:Nat),fs.q9f x f l=some x'→0<l.length→f+l.length≤fs.size
 | [],_,_,_,_,h=>absurd h (Nat.lt_irrefl _)
 | c::l,x,x',f,h,_=>by
  have h:(match fs.q8t x f c with | some q=>fs.q9f q (f+1) l | none=>none)=some x':=h
  split at h
  ·rename_i q hq
   have hlt:f<fs.size:=setFld_lt fs x q f hq;rw [List.length_cons];rcases QH l.length with e | e
   ·omega
   ·have:=qkt l q x' (f+1) h e
    omega
  ·cases h
theorem store_row {base:Nat} {r i f sz:Nat} {g m cap:Nat} {z:Row} {cells:List Value} {l:List Cell} {y:Value} {x':z.fs.Pay} {st:St} (hbound:∀ g,κ.S g→g<w.heap.size) (hρ:κ.ρ r=.slice (some ⟨g,0,none⟩) m cap) (him:i<m)
  (hown:w.ownsRow base z.e z.fs.size (κ.ρ r) z.xs.length cells) (hcells:q0k κ w z.fs z.xs cells) (hnn:∀ g,(κ.ρ r).ownBlock=some g→¬ κ.S g∧∀ b cs,st.box b=some cs→κ.β b≠g)
  (hset:z.fs.q9f (z.xs.getD i z.fs.dflt) f l=some x') (hy:q06 κ w l y.cells) (hsz:sz=z.fs.size) :
  ∃ w',(Go.storeCells ⟨g,i*sz+f,none⟩ y.cells.toList 0).run P w=.ok () w'∧Only g w w'∧w'.ownsRow base z.e z.fs.size (κ.ρ r) (z.xs.set i x').length ((y.cells.toList.zipIdx 0).foldl (λcs (c,j)=>cs.set (i*z.fs.size+f+j) c) cells) ∧
   q0k κ w z.fs (z.xs.set i x') ((y.cells.toList.zipIdx 0).foldl (λcs (c,j)=>cs.set (i*z.fs.size+f+j) c) cells)∧i<z.xs.length:=by
 subst hsz;rw [hρ] at hown;obtain ⟨hcl,ho⟩:=hown;rcases ho with ⟨h0,_⟩ | ⟨g',cap',cur,hv,hb,hg,hnc,hcm,hcs,htake⟩
 ·cases h0
 ·injection hv with e1 e2 e3
  injection e1 with e1;injection e1 with e1;subst e1;subst e3;have hil:i<z.xs.length:=by rw [← e2];exact him
  have hx:z.xs[i]? = some (z.xs.getD i z.fs.dflt):=by rw [List.getD_eq_getElem?_getD,Q7 hil,Option.getD_some]
  have hlen:y.cells.toList.length=l.length:=by rw [QA];exact hy.1
  have hmul:(i+1)*z.fs.size≤z.xs.length*z.fs.size:=Q8 _ hil;rw [Q9,Qh] at hmul;have hmul2:z.xs.length*z.fs.size≤cap*z.fs.size:=Q8 _ hnc;obtain ⟨w',h1,h2,h3⟩:=q7b (P:=P) y.cells.toList (i*z.fs.size+f) 0 cur w hg (λv hv=>by
   obtain ⟨j,hj,rfl⟩:=Qk hv;exact hy.2.2 j _ (by rw [← Qw];exact Q7 hj)) (λh0=>by
   rw [hlen] at h0 ⊢;have:=qkt l _ x' f hset h0;rw [hcs];omega)
  refine ⟨w',h1,h2,?_,?_,hil⟩
  ·rw [hρ,Qj]
   refine ⟨by rw [foldl_len];exact hcl,.inr ⟨g,cap,_,by rw [e2],hb,h3,hnc,hcm,by rw [qel];exact hcs,qen _ _ _ _ _ htake⟩⟩
  ·exact qfo l y.cells.toList 0 f z.xs cells _ x' hcells hcl hx (by simpa using hset) (by simpa using hy)
theorem Rel.storeRow (h:Rel w0 κ st a w) {r:Nat} {x y:Row} (hx:st.row r=some x) {g:Nat} (hg:(κ.ρ r).ownBlock=some g) (ho:Only g w w') {cells:List Value} (hown:w'.ownsRow w0.n0 y.e y.fs.size (κ.ρ r) y.xs.length cells) (hcells:q0k κ w y.fs y.xs cells) :
  Rel w0 κ (st.putRow r y) a w':=by
 obtain ⟨cs0,hown0,_,hn0⟩:=h.row r x hx;have hS:=(hn0 g hg).1;have hge:=q2r hown0 g hg;have hkeep:Keeps w w' κ.S:=ho.keeps hS;have H:∀ (c:Cell) v,c.Rep κ w v→c.Rep κ w' v:=λc v hr=>hr.keeps rfl rfl rfl hkeep (λg hg _=>hg)
 have hrows:∀ k z,(st.putRow r y).row k=some z→(k=r∧z=y)∨(k≠r∧st.row k=some z):=λk z hz=>by
  have hz:look? k ((r,y)::q1q r st.rows)=some z:=hz;rw [look?_cons,look?_dropKey] at hz;by_cases e:r=k
  ·rw [if_pos e] at hz;injection hz with hz;exact .inl ⟨e.symm,hz.symm⟩
  ·rw [if_neg e,if_neg (λh=>e h.symm)] at hz;exact .inr ⟨λh=>e h.symm,hz⟩
 exact {
  defers:=h.defers
  size:=h.size
  env:=λt=>AV.Rep.mono H (h.env t)
  box:=λb bs hb=>by
   obtain ⟨us,ty,hblk,hr,h1,h2⟩:=h.box b bs hb;exact ⟨us,ty,ho.blk (λe=>(hn0 g hg).2 b bs hb e) hblk,hr.mono H,h1,h2⟩
  apart:=h.apart
  row:=λk z hz=>by
   rcases hrows k z hz with ⟨rfl,rfl⟩ | ⟨hne,hz⟩
   ·exact ⟨cells,hown,hcells.keeps hkeep (λg hg _=>hg),hn0⟩
   ·obtain ⟨cs,ho2,hc,hn⟩:=h.row k z hz
    exact ⟨cs,ho.owns ho2 (λe=>hne (h.rows k r z x hz hx g e hg)),hc.keeps hkeep (λg hg _=>hg),hn⟩
  rows:=λk k' z z' hz hz' g' hk hk'=>by
   have q:∀ k z,(st.putRow r y).row k=some z→∃ z0,st.row k=some z0:=λk z hz=>by
    rcases hrows k z hz with ⟨rfl,_⟩ | ⟨_,hz⟩
    ·exact ⟨x,hx⟩
    ·exact ⟨z,hz⟩
   obtain ⟨z0,hz0⟩:=q k z hz;obtain ⟨z1,hz1⟩:=q k' z' hz';exact h.rows k k' z0 z1 hz0 hz1 g' hk hk'
  bound:=λg hg=>by rw [ho.size];exact h.bound g hg
  below:=ho.belowX h.below (.inl hge)
  old:=h.old
  ext:=h.ext.move (g:=id) (λc v hr=>AV.Rep.mono H hr) (λt=>rfl) ⟨rfl,rfl,rfl,rfl⟩ rfl (λk p v hr=>H (.val k p) v hr) (λg1 o ho' hh=>(ho.block g1 (λe=>q45 hown0 g hg o ho' (by rw [← e];exact hh))).trans hh)
   (λg1 hs _=>ho.block g1 (λe=>hs.2.2 r x hx (by rw [e];exact hg)))
   (λg1 hs _=>⟨hs.1,hs.2.1,λk z hz=>by
    rcases hrows k z hz with ⟨rfl,_⟩ | ⟨_,hz⟩
    ·exact hs.2.2 _ x hx
    ·exact hs.2.2 k z hz⟩) rfl (qa9 _) }
theorem qjz {e:TypeId} {i:TypeInfo} {zero:Value} {fs:Kds} {zc:List Cell} {z:fs.Pay} {n:Nat} (hz:zeroCells P e=some zc) (hi:P.info? e=some i) (hz0:i.zero=some zero) (hzr:q1e fs zc=some z) (hsz:zero.cells.size=fs.size) :
  q0k κ w fs (Qu n z) (madeCells zero.cells (n*fs.size)).toList:=by
 obtain ⟨it,z2,hit,hz2,hcs⟩:=q8j (κ:=κ) (w:=w) hz;rw [hi] at hit;injection hit with hit;subst hit;rw [hz0] at hz2;injection hz2 with hz2;subst hz2;have hx:=q4d fs zc z zero.cells.toList hzr (by simpa using hcs)
 intro j x hj f q hq;have hjl:=(Q0.1 hj).1;rw [Qv] at hjl;have:x=z:=by
  have:=(Q0.1 hj).2
  rw [Qs] at this;exact this.symm
 subst this;have hf:=Kds.q7w fs x f q hq;obtain ⟨u,hu,hr⟩:=hx.2.1 f _ (qgj fs x f q hq);refine ⟨u,?_,hr⟩;have hlt:j*fs.size+f<n*fs.size:=by
  have:(j+1)*fs.size≤n*fs.size:=Q8 _ hjl
  rw [Q9,Qh] at this;omega
 have hmod:(j*fs.size+f) % fs.size=f:=by
  rw [Nat.add_comm,Nat.add_mul_mod_self_right,Nat.mod_eq_of_lt hf]
 have hu':zero.cells[f]? = some u:=by simpa using hu
 unfold madeCells;rw [Qw,Array.getElem?_map,Array.getElem?_range,if_pos hlt,Option.map_some,hsz,hmod,getElem!_pos zero.cells f (by rw [hsz];exact hf)]
 rw [← hu',Array.getElem?_eq_getElem]
end
end R
namespace R
section
variable {w0:Base} {w w':World} {κ:Cx} {st:St} {a:Act} {P:Program}
abbrev setB (w:World) (g:Nat) (o:Obj):World:=Go.ChangeMaps.setBlock w g o
theorem q3q {g k:Nat} {o:Obj} (h:k≠g):(setB w g o).heap[k]? = w.heap[k]? := by
 show (w.heap.setIfInBounds g _)[k]? = _;rw [Array.getElem?_setIfInBounds_ne (Ne.symm h)]
theorem q4l {g:Nat} {o:Obj} (h:g<w.heap.size):(setB w g o).heap[g]? = some o:=by
 show (w.heap.setIfInBounds g _)[g]? = _;rw [Array.getElem?_setIfInBounds_self_of_lt h]
theorem setB_size (g:Nat) (o:Obj):(setB w g o).heap.size=w.heap.size:=by
 show (w.heap.setIfInBounds g _).size=_;rw [Qq]
theorem lt_of_some {g:Nat} {o:Obj} (h:w.heap[g]? = some o):g<w.heap.size:=(Qm.1 h).1
theorem noCell {g:Nat} {o:Obj} (hm:o.q2q=true) (h:w.heap[g]? = some o) (i:Nat):w.cell? ⟨g,i,none⟩=none:=by
 unfold World.cell?;rw [h];cases o <;> first | rfl | cases hm
theorem q5x {g:Nat} {o o':Obj} (hm:o.q2q=true) (hm':o'.q2q=true) (h:w.heap[g]? = some o) (S:Nat→Prop):Keeps w (setB w g o') S :=
 ⟨Nat.le_of_eq (setB_size g o').symm,λk i _ _=>by
  by_cases e:k=g
  ·subst e
   rw [noCell hm h i,noCell hm' (q4l (lt_of_some h)) i]
  ·exact World.cell?_of_block (q3q e)⟩
theorem q90 {g:Nat} {o:Obj}:w.grownBy (setB w g o) (some g):=⟨rfl,rfl,rfl,Nat.le_of_eq (setB_size g o).symm,λk _ hk=>q3q (λe=>hk (by rw [e]))⟩
theorem Rel.privWrite {κ':Cx} {st':St} (h:Rel w0 κ st a w) (hβ:κ'.β=κ.β) (hρ:κ'.ρ=κ.ρ) (hS:κ'.S=κ.S) (hM:κ'.M=κ.M) {row:Option Nat} (hgr:w.grownBy w' row) (hrow:∀ k,row=some k→w0.n0≤k∧(∀ b bs,st.box b=some bs→κ.β b≠k)∧∀ r x,st.row r=some x→(κ.ρ r).ownBlock≠some k) (hkeep:Keeps w w' κ.S)
  (hn:st'.n=st.n) (hrows:st'.rows=st.rows) (henv:∀ t v,(st.get t).Rep κ w v→(st'.get t).Rep κ' w' v) (hbox:∀ b bs,st'.box b=some bs→∃ bs0,st.box b=some bs0∧∀ vs,q06 κ w bs0 vs→q06 κ' w' bs vs) (hext:Ext w0 κ' st' w'):Rel w0 κ' st' a w':=by
 have hrw:∀ r,st'.row r=st.row r:=λr=>by show look? r st'.rows=look? r st.rows;rw [hrows]
 exact {
  defers:=by rw [hM];exact h.defers
  size:=by rw [hn];exact h.size
  env:=λt=>henv t _ (h.env t)
  box:=λb bs hb=>by
   obtain ⟨bs0,hb0,hc⟩:=hbox b bs hb;obtain ⟨us,ty,hbk,hr,h1,h2⟩:=h.box b bs0 hb0;rw [hβ,hS];exact ⟨us,ty,(hgr.block _ hbk.lt (λe=>(hrow _ e.symm).2.1 b bs0 hb0 rfl)).trans hbk,hc us hr,h1,h2⟩
  apart:=λb b' bs bs' hb hb' e=>by
   obtain ⟨bs0,hb0,_⟩:=hbox b bs hb;obtain ⟨bs0',hb0',_⟩:=hbox b' bs' hb';rw [hβ] at e;exact h.apart b b' _ _ hb0 hb0' e
  row:=λr x hx=>by
   rw [hrw] at hx;obtain ⟨cells,ho,hc,hnn⟩:=h.row r x hx;rw [hρ,hβ,hS];refine ⟨cells,ho.kept hgr ?_,hc.keeps (κ:=κ) (κ':=κ') hkeep (λg hg _=>by rw [hS];exact hg),λg hg=>⟨(hnn g hg).1,λb bs hb e=>?_⟩⟩
   ·cases hb:(κ.ρ r).ownBlock with
    | none=>exact .inl rfl
    | some g =>
     refine .inr λe=>?_
     exact (hrow g e.symm).2.2 r x hx hb
   ·obtain ⟨bs0,hb0,_⟩:=hbox b bs hb
    exact (hnn g hg).2 b bs0 hb0 e
  rows:=λr r' x x' hx hx' g hg hg'=>by
   rw [hrw] at hx hx';rw [hρ] at hg hg';exact h.rows r r' x x' hx hx' g hg hg'
  bound:=λg hg=>by
   rw [hS] at hg;exact Ql (h.bound g hg) hgr.size
  below:=h.below.grown hgr h.low (λk hk=>(hrow k hk).1)
  old:=λg hg=>by rw [hS] at hg;exact h.old g hg
  ext:=hext }
theorem Rel.qiz {κ':Cx} {st':St} (h:Rel w0 κ st a w) (hβ:κ'.β=κ.β) (hρ:κ'.ρ=κ.ρ) (hS:κ'.S=κ.S) (hM:κ'.M=κ.M) {row:Option Nat} (hgr:w.grownBy w' row) (hrow:∀ k,row=some k→w0.n0≤k∧∃ o:Obj,o.q2q=true∧w.heap[k]? = some o) (hkeep:Keeps w w' κ.S)
  (hn:st'.n=st.n) (hrows:st'.rows=st.rows) (henv:∀ t v,(st.get t).Rep κ w v→(st'.get t).Rep κ' w' v) (hbox:∀ b bs,st'.box b=some bs→∃ bs0,st.box b=some bs0∧∀ vs,q06 κ w bs0 vs→q06 κ' w' bs vs) (hext:Ext w0 κ' st' w'):Rel w0 κ' st' a w' :=
 h.privWrite hβ hρ hS hM hgr (λk hk=>by
  obtain ⟨h1,o,h2,h3⟩:=hrow k hk;refine ⟨h1,λb bs hb e=>?_,λr x hx e=>?_⟩
  ·obtain ⟨us,ty,hbk,_⟩:=h.box b bs hb
   rw [e] at hbk;rw [show w.heap[k]? = _ from hbk] at h3;injection h3 with h3;rw [← h3] at h2;cases h2
  ·obtain ⟨cells,ho,_⟩:=h.row r x hx
   exact q45 ho k e o h2 h3) hkeep hn hrows henv hbox hext
theorem qjk (g:Cell→Cell) (hg:g .any=.any) (st:St) (t:Nat):(st.mapC g).get t=(st.get t).mapC g:=q3w g hg t st.env
theorem qja (g:Cell→Cell) (st:St) {b:Nat} {bs:List Cell} (hb:(st.mapC g).box b=some bs):∃ bs0,st.box b=some bs0∧bs=bs0.map g:=by
 have hb:look? b (st.boxes.map λ(b,cs)=>(b,cs.map g))=some bs:=hb
 rw [look?_map] at hb;cases hx:look? b st.boxes with
 | none=>rw [hx] at hb;cases hb
 | some bs0=>rw [hx] at hb;injection hb with hb;exact ⟨bs0,hx,hb.symm⟩
theorem Rel.privWriteC {κ':Cx} {st':St} {g:Cell→Cell} (hg:g .any=.any) (h:Rel w0 κ st a w) (hβ:κ'.β=κ.β) (hρ:κ'.ρ=κ.ρ) (hS:κ'.S=κ.S) (hM:κ'.M=κ.M) {row:Option Nat} (hgr:w.grownBy w' row) (hrow:∀ k,row=some k→w0.n0≤k∧(∀ b bs,st.box b=some bs→κ.β b≠k)∧∀ r x,st.row r=some x→(κ.ρ r).ownBlock≠some k) (hkeep:Keeps w w' κ.S)
  (H:∀ (c:Cell) v,c.Rep κ w v→(g c).Rep κ' w' v) (hn:st'.n=st.n) (hrows:st'.rows=st.rows) (henv:st'.env=(st.mapC g).env) (hbox:st'.boxes=(st.mapC g).boxes) (hsav:st'.sav=(st.mapC g).sav)
  (hmap:∀ m y,st'.map m=some y→∃ es clock,w'.heap[κ'.μ m]? = some (.map es clock)∧EntRep κ' w' y es clock∧w0.n0≤κ'.μ m)
  (hmaps:∀ m m' y y',st'.map m=some y→st'.map m'=some y'→κ'.μ m=κ'.μ m'→m=m')
  (hnest:∀ y,st'.nest=some y→NestRep w0.n0 κ' st'.maps w' y)
  (hiter:∀ i z,st'.iter i=some z→q59 w0.n0 κ' w' z (κ'.μ.θ i))
  (hiters:∀ i j z z',st'.iter i=some z→st'.iter j=some z'→κ'.μ.θ i=κ'.μ.θ j→i=j)
  (hfam:∀ y,st'.fam=some y→FamRep w0.n0 κ' st'.boxes st'.rows st'.maps w' y) (hexcl:st'.fam=none∨st'.nest=none)
  (hdl:∀ (g:Nat) (o:Obj),o.ctl=true→w.heap[g]? = some o→w'.heap[g]? = some o) (hlam:κ'.μ.lam=κ.μ.lam) (htau:κ'.μ.tau=κ.μ.tau) (hlps:st'.lps=(st.mapC g).lps):Rel w0 κ' st' a w' :=
 h.privWrite hβ hρ hS hM hgr hrow hkeep hn hrows (λt v hv=>by
  have e:st'.get t=(st.get t).mapC g:=by show look _ t st'.env=_;rw [henv];exact qjk g hg st t
  rw [e];exact q3h H hv) (λb bs hb=>by
  have hb:look? b st'.boxes=some bs:=hb;rw [hbox] at hb;obtain ⟨bs0,h1,rfl⟩:=qja g st hb;exact ⟨bs0,h1,λvs hv=>q4y H hv⟩) {
   sav:=λt=>by
    rw [hsav];show AV.Rep _ _ (look _ t (st.sav.map λ(t,v)=>(t,v.mapC g))) _
    rw [q3w _ hg];exact q3h H (h.ext.sav t)
   map:=hmap
   maps:=hmaps
   nest:=hnest
   iter:=hiter
   iters:=hiters
   fam:=hfam
   excl:=hexcl
   marks:=λD hD=>by rw [hM] at hD;exact ⟨(h.ext.marks D hD).1,hdl _ _ rfl (h.ext.marks D hD).2⟩
   fresh:=by rw [hM];exact h.ext.fresh
   busy:=λl hl=>by
    obtain ⟨h1,r,h2⟩:=h.ext.busy l hl;exact ⟨h1,r,hdl _ _ rfl h2⟩
   lps:=λi L' hL'=>by
    rw [hlps] at hL';obtain ⟨L,hL,e⟩:=q4v (AV.mapC g) (by show AV.c (.one (g .any))=_;rw [hg]) st.lps i L' hL'
    exact (h.ext.lps i L hL).move e hlam htau (λc v hr=>q3h H hr) hdl
   scope:=by rw [hlps];exact (q9d (AV.mapC g) (by show AV.c (.one (g .any))=_;rw [hg]) st.lps).scope hlam h.ext.scope
   lpsd:=λi k L1 L2 h1 h2 e=>by
    rw [hlps] at h1 h2;obtain ⟨L1',g1,e1⟩:=q4v (AV.mapC g) (by show AV.c (.one (g .any))=_;rw [hg]) st.lps i L1 h1
    obtain ⟨L2',g2,e2⟩:=q4v (AV.mapC g) (by show AV.c (.one (g .any))=_;rw [hg]) st.lps k L2 h2
    rw [hlam,e1.j,e2.j] at e;exact h.ext.lpsd i k L1' L2' g1 g2 e }
theorem Rel.q8a {κ':Cx} {st':St} {g:Cell→Cell} (hg:g .any=.any) (h:Rel w0 κ st a w) (hβ:κ'.β=κ.β) (hρ:κ'.ρ=κ.ρ) (hS:κ'.S=κ.S) (hM:κ'.M=κ.M) {row:Option Nat} (hgr:w.grownBy w' row) (hrow:∀ k,row=some k→w0.n0≤k∧∃ o:Obj,o.q2q=true∧w.heap[k]? = some o) (hkeep:Keeps w w' κ.S)
  (H:∀ (c:Cell) v,c.Rep κ w v→(g c).Rep κ' w' v) (hn:st'.n=st.n) (hrows:st'.rows=st.rows) (henv:st'.env=(st.mapC g).env) (hbox:st'.boxes=(st.mapC g).boxes) (hsav:st'.sav=(st.mapC g).sav)
  (hmap:∀ m y,st'.map m=some y→∃ es clock,w'.heap[κ'.μ m]? = some (.map es clock)∧EntRep κ' w' y es clock∧w0.n0≤κ'.μ m)
  (hmaps:∀ m m' y y',st'.map m=some y→st'.map m'=some y'→κ'.μ m=κ'.μ m'→m=m')
  (hnest:∀ y,st'.nest=some y→NestRep w0.n0 κ' st'.maps w' y)
  (hiter:∀ i z,st'.iter i=some z→q59 w0.n0 κ' w' z (κ'.μ.θ i))
  (hiters:∀ i j z z',st'.iter i=some z→st'.iter j=some z'→κ'.μ.θ i=κ'.μ.θ j→i=j)
  (hfam:∀ y,st'.fam=some y→FamRep w0.n0 κ' st'.boxes st'.rows st'.maps w' y) (hexcl:st'.fam=none∨st'.nest=none)
  (hdl:∀ (g:Nat) (o:Obj),o.ctl=true→w.heap[g]? = some o→w'.heap[g]? = some o) (hlam:κ'.μ.lam=κ.μ.lam) (htau:κ'.μ.tau=κ.μ.tau) (hlps:st'.lps=(st.mapC g).lps):Rel w0 κ' st' a w' :=
 h.qiz hβ hρ hS hM hgr hrow hkeep hn hrows (λt v hv=>by
  have e:st'.get t=(st.get t).mapC g:=by show look _ t st'.env=_;rw [henv];exact qjk g hg st t
  rw [e];exact q3h H hv) (λb bs hb=>by
  have hb:look? b st'.boxes=some bs:=hb;rw [hbox] at hb;obtain ⟨bs0,h1,rfl⟩:=qja g st hb;exact ⟨bs0,h1,λvs hv=>q4y H hv⟩) {
   sav:=λt=>by
    rw [hsav];show AV.Rep _ _ (look _ t (st.sav.map λ(t,v)=>(t,v.mapC g))) _
    rw [q3w _ hg];exact q3h H (h.ext.sav t)
   map:=hmap
   maps:=hmaps
   nest:=hnest
   iter:=hiter
   iters:=hiters
   fam:=hfam
   excl:=hexcl
   marks:=λD hD=>by rw [hM] at hD;exact ⟨(h.ext.marks D hD).1,hdl _ _ rfl (h.ext.marks D hD).2⟩
   fresh:=by rw [hM];exact h.ext.fresh
   busy:=λl hl=>by
    obtain ⟨h1,r,h2⟩:=h.ext.busy l hl;exact ⟨h1,r,hdl _ _ rfl h2⟩
   lps:=λi L' hL'=>by
    rw [hlps] at hL';obtain ⟨L,hL,e⟩:=q4v (AV.mapC g) (by show AV.c (.one (g .any))=_;rw [hg]) st.lps i L' hL'
    exact (h.ext.lps i L hL).move e hlam htau (λc v hr=>q3h H hr) hdl
   scope:=by rw [hlps];exact (q9d (AV.mapC g) (by show AV.c (.one (g .any))=_;rw [hg]) st.lps).scope hlam h.ext.scope
   lpsd:=λi k L1 L2 h1 h2 e=>by
    rw [hlps] at h1 h2;obtain ⟨L1',g1,e1⟩:=q4v (AV.mapC g) (by show AV.c (.one (g .any))=_;rw [hg]) st.lps i L1 h1
    obtain ⟨L2',g2,e2⟩:=q4v (AV.mapC g) (by show AV.c (.one (g .any))=_;rw [hg]) st.lps k L2 h2
    rw [hlam,e1.j,e2.j] at e;exact h.ext.lpsd i k L1' L2' g1 g2 e }
theorem q3f {κ':Cx} (hS:κ'.S=κ.S) (hk:Keeps w w' κ.S) {k:Kd} {p:k.Pay} {v:Value} (h:Cell.Rep κ w (.val k p) v):Cell.Rep κ' w' (.val k p) v :=
 Kd.Rep.keeps (S:=κ.S) (S':=κ'.S) hk (λg hg _=>by rw [hS];exact hg) k p v h
theorem ep_keeps {κ':Cx} (hS:κ'.S=κ.S) (hk:Keeps w w' κ.S) {fs:Kds} {p:fs.Pay} {f:Nat} {v:Value} (h:Cell.Rep κ w (.ep fs p f) v):Cell.Rep κ' w' (.ep fs p f) v:=by
 obtain ⟨g,o,rfl,hg,hs,hr⟩:=h;exact ⟨g,o,rfl,Ql hg hk.size,by rw [hS];exact hs,Kds.Rep.keeps (S:=κ.S) (S':=κ'.S) hk (λg hg _=>by rw [hS];exact hg) fs p g o hs hg hr⟩
theorem dyn_keeps {κ':Cx} (hS:κ'.S=κ.S) (hk:Keeps w w' κ.S) {t:TypeId} {ks:Kds} {p:ks.Pay} {v:Value} (h:Cell.Rep κ w (.dyn t ks p) v):Cell.Rep κ' w' (.dyn t ks p) v:=by
 obtain ⟨us,rfl,hl,hu⟩:=h;exact ⟨us,rfl,hl,λf z hz=>let ⟨u,h1,h2⟩:=hu f z hz;⟨u,h1,Kd.Rep.keeps (S:=κ.S) (S':=κ'.S) hk (λg hg _=>by rw [hS];exact hg) z.1 z.2 u h2⟩⟩
theorem seq_keeps {κ':Cx} (hS:κ'.S=κ.S) (hk:Keeps w w' κ.S) {f:FuncId} {src:Src} (hsrc:κ'.src src=κ.src src) {v:Value} (h:Cell.Rep κ w (.kseq f src) v):Cell.Rep κ' w' (.kseq f src) v:=by
 obtain ⟨g,rfl,hg,hs,hc⟩:=h;exact ⟨g,rfl,Ql hg hk.size,by rw [hS];exact hs,by rw [hsrc];exact (hk.cell g 0 hs hg).trans hc⟩
theorem q00 {κ':Cx} (hβ:κ'.β=κ.β) (hρ:κ'.ρ=κ.ρ) (hS:κ'.S=κ.S) (hk:Keeps w w' κ.S) {c:Cell} {v:Value} (h:c.Rep κ w v)
  (hc:match c with | .fstamp=>κ'.μ.stp=κ.μ.stp | .mref m=>κ'.μ m=κ.μ m | .nref=>κ'.μ.ν=κ.μ.ν | .iref kk k=>κ'.μ.inn (kk.kv k)=κ.μ.inn (kk.kv k) | .iter i=>κ'.μ.θ i=κ.μ.θ i | .kseq _ src=>κ'.src src=κ.src src | .fref=>κ'.μ.φ=κ.μ.φ | .fent kk k=>κ'.μ.fin (kk.kv k)=κ.μ.fin (kk.kv k) | .fp kk k _ _ _=>κ'.μ.fin (kk.kv k)=κ.μ.fin (kk.kv k) | .fnew=>κ'.μ.fnw=κ.μ.fnw | .yld j=>κ'.μ.lam j=κ.μ.lam j | _=>True):c.Rep κ' w' v:=by
 cases c with
 | any=>trivial
 | undef=>exact h
 | nil=>exact h
 | val k p=>exact q3f hS hk h
 | ptr b off=>show v=_;rw [hβ];exact h
 | ep fs p f=>exact ep_keeps hS hk h
 | own r=>show v=_∧_;rw [hρ];exact h
 | rp r sz i f=>show ∃ g n c,_∧_;rw [hρ];exact h
 | sfx r sz i=>show ∃ g n c,_∧_;rw [hρ];exact h
 | fn f=>exact h
 | clo f k ps =>
  have e:κ'.ptr=κ.ptr:=by unfold Cx.ptr;rw [hβ]
  show v=.func _ (List.map κ'.ptr _).toArray (List.map κ'.ptr _).toArray;rw [e];exact h
 | fsl cls=>exact qac (λcl _=>q6t hβ cl) hk (λg hg _=>by rw [hS];exact hg) h
 | fel cls n=>exact qah (λcl _=>q6t hβ cl) hk (λg hg _=>by rw [hS];exact hg) h
 | nilm=>exact h
 | mref m=>show v=.map (some (κ'.μ m));rw [show κ'.μ m=κ.μ m from hc];exact h
 | nref=>show v=.map (some κ'.μ.ν);rw [show κ'.μ.ν=κ.μ.ν from hc];exact h
 | iref kk k=>show v=.map (κ'.μ.inn (kk.kv k));rw [show κ'.μ.inn (kk.kv k)=_ from hc];exact h
 | iter i=>show v=.pointer (some ⟨κ'.μ.θ i,0,none⟩);rw [show κ'.μ.θ i=_ from hc];exact h
 | fref=>show v=.map (some κ'.μ.φ);rw [show κ'.μ.φ=κ.μ.φ from hc];exact h
 | fent kk k=>show v=κ'.μ.fin (kk.kv k)∧_;rw [show κ'.μ.fin (kk.kv k)=κ.μ.fin (kk.kv k) from hc];exact h
 | fp kk k sz i f=>show ∃ g n c,κ'.μ.fin (kk.kv k)=_∧_;rw [show κ'.μ.fin (kk.kv k)=κ.μ.fin (kk.kv k) from hc];exact h
 | fnew=>show v=κ'.μ.fnw∧_;rw [show κ'.μ.fnw=κ.μ.fnw from hc];exact h
 | yld j=>show v=.func (.yield (κ'.μ.lam j)) _ _;rw [show κ'.μ.lam j=κ.μ.lam j from hc];exact h
 | fstamp=>show v=.int .i64 κ'.μ.stp;rw [show κ'.μ.stp=κ.μ.stp from hc];exact h
 | kseq f src=>exact seq_keeps hS hk hc h
 | bnd f x p=>exact qab hk (λg hg _=>by rw [hS];exact hg) h
 | dyn t ks p=>exact dyn_keeps hS hk h
theorem Cx.sep.mapB {κ':Cx} {boxes:List (Nat×List Cell)} {rows:List (Nat×Row)} {p:Nat} (h:κ.sep boxes rows p) (hβ:κ'.β=κ.β) (hρ:κ'.ρ=κ.ρ) (hS:κ'.S=κ.S) (g:Cell→Cell):κ'.sep (boxes.map λ(b,cs)=>(b,cs.map g)) rows p :=
 ⟨by rw [hS];exact h.1,λb cs hb=>by
  rw [look?_map] at hb;cases hx:look? b boxes with
  | none=>rw [hx] at hb;cases hb
  | some bs0=>rw [hβ];exact h.2.1 b bs0 hx,by rw [hρ];exact h.2.2⟩
theorem Rel.noFam (h:Rel w0 κ st a w) {y:NRow} (hy:st.nest=some y):st.fam=none:=h.ext.excl.resolve_right (by rw [hy];exact λe=>nomatch e)
theorem Rel.noNest (h:Rel w0 κ st a w) {y:FRow} (hy:st.fam=some y):st.nest=none:=h.ext.excl.resolve_left (by rw [hy];exact λe=>nomatch e)
theorem Rel.qhj (h:Rel w0 κ st a w) (hnf:st.fam=none) (t:TypeId) (kk:CK) (it:TypeId) (ik iv:CK):∃ κ',Rel w0 κ' (st.qhj ⟨t,kk,it,ik,iv,[]⟩) a (w.alloc (.map #[] 0))∧κ'.μ.ν=w.heap.size:=by
 have hbel:Below w.heap.size w (w.alloc (.map #[] 0)):=q02 (q03 w) _;have hkeep:Keeps w (w.alloc (.map #[] 0)) κ.S:=Keeps.below hbel κ.S
 let κ':Cx:={ κ with μ:={ κ.μ with ν:=w.heap.size,inn:=λ_=>none } }
 have H:∀ (c:Cell) v,c.Rep κ w v→(c.qj9).Rep κ' (w.alloc (.map #[] 0)) v:=λc v hr=>by
  cases c with
  | nref=>trivial
  | iref kk k=>trivial
  | kseq f src =>
   cases src with
   | inner kk k=>trivial
   | map m=>exact q00 (κ':=κ') rfl rfl rfl hkeep hr rfl
   | none=>exact q00 (κ':=κ') rfl rfl rfl hkeep hr rfl
  | mref m=>exact q00 (κ':=κ') rfl rfl rfl hkeep hr rfl
  | iter i=>exact q00 (κ':=κ') rfl rfl rfl hkeep hr rfl
  | fref=>exact q00 (κ':=κ') rfl rfl rfl hkeep hr rfl
  | fent kk k=>exact q00 (κ':=κ') rfl rfl rfl hkeep hr rfl
  | fp kk k sz i f=>exact q00 (κ':=κ') rfl rfl rfl hkeep hr rfl
  | fnew=>exact q00 (κ':=κ') rfl rfl rfl hkeep hr rfl
  | yld j=>exact q00 (κ':=κ') rfl rfl rfl hkeep hr rfl
  | fstamp=>exact q00 (κ':=κ') rfl rfl rfl hkeep hr rfl
  | any=>exact q00 (κ':=κ') rfl rfl rfl hkeep hr trivial
  | undef=>exact q00 (κ':=κ') rfl rfl rfl hkeep hr trivial
  | nil=>exact q00 (κ':=κ') rfl rfl rfl hkeep hr trivial
  | val k p=>exact q00 (κ':=κ') rfl rfl rfl hkeep hr trivial
  | ptr b off=>exact q00 (κ':=κ') rfl rfl rfl hkeep hr trivial
  | ep fs p f=>exact q00 (κ':=κ') rfl rfl rfl hkeep hr trivial
  | own r=>exact q00 (κ':=κ') rfl rfl rfl hkeep hr trivial
  | rp r sz i f=>exact q00 (κ':=κ') rfl rfl rfl hkeep hr trivial
  | sfx r sz i=>exact q00 (κ':=κ') rfl rfl rfl hkeep hr trivial
  | fn f=>exact q00 (κ':=κ') rfl rfl rfl hkeep hr trivial
  | clo f k ps=>exact q00 (κ':=κ') rfl rfl rfl hkeep hr trivial
  | fsl cls=>exact q00 (κ':=κ') rfl rfl rfl hkeep hr trivial
  | fel cls n=>exact q00 (κ':=κ') rfl rfl rfl hkeep hr trivial
  | nilm=>exact q00 (κ':=κ') rfl rfl rfl hkeep hr trivial
  | bnd f x p=>exact q00 (κ':=κ') rfl rfl rfl hkeep hr trivial
  | dyn t ks p=>exact q00 (κ':=κ') rfl rfl rfl hkeep hr trivial
 have HV:∀ k p v,Cell.Rep κ w (.val k p) v→Cell.Rep κ' (w.alloc (.map #[] 0)) (.val k p) v:=λk p v hr=>q3f (κ':=κ') rfl hkeep hr
 refine ⟨κ',h.q8a (g:=Cell.qj9) (κ':=κ') (row:=none) rfl rfl rfl rfl rfl (QD w _ none) (λk e=>nomatch e) hkeep H rfl rfl rfl rfl rfl ?_ h.ext.maps ?_ (λi z e=>nomatch e) (λi j z z' e=>nomatch e) (λy hy=>by have hy:st.fam=some y:=hy;rw [hnf] at hy;cases hy) (.inl hnf) (λg o ho=>q1h hbel g o (q5j ho)) rfl rfl rfl,rfl⟩
 ·intro m y hy
  obtain ⟨es,clock,h1,h2,h3⟩:=h.ext.map m y hy;exact ⟨es,clock,q1h hbel _ _ rfl h1,h2.mono HV,h3⟩
 ·intro y hy
  injection hy with hy;subst hy;exact {
   out:=⟨#[],0,World.alloc_heap_new w _,rfl,(λi x hx=>nomatch hx),(λe he=>by cases he),by simp⟩
   inn:=λi x hx=>nomatch hx
   miss:=λk _=>rfl
   inj:=λi j x x' hx=>nomatch hx
   low:=h.low
   apart:=λm z hz=>by
    obtain ⟨es,clock,h1,_⟩:=h.ext.map m z hz;have:=lt_of_some h1;show κ.μ m≠w.heap.size;omega }
open Classical in
theorem Rel.qhb (h:Rel w0 κ st a w) {m:Nat} {y:NRow} {zxs:List (y.ik.Pay×y.iv.Pay)} (hz:st.map m=some ⟨y.it,y.ik,y.iv,zxs⟩) (hy:st.nest=some y) (hp:y.kk.plain=true) {k:y.kk.Pay} (hk:y.at_ k=none) {es:Array MapEntry} {clock:Nat} (hout:w.heap[κ.μ.ν]? = some (.map es clock)) :
  ∃ κ',Rel w0 κ' (st.qhb m ⟨y.t,y.kk,y.it,y.ik,y.iv,y.xs++[(k,zxs)]⟩) a (setB w κ.μ.ν (.map (es.push { key:=y.kk.kv k,val:=.map (some (κ.μ m)),born:=clock }) (clock+1))):=by
 have hN:=h.ext.nest y hy;obtain ⟨es0,clock0,hg,hsz,hat,hborn,hnd⟩:=hN.out;rw [hout] at hg;injection hg with hg;injection hg with e1 e2;subst e1;subst e2;obtain ⟨zes,zclock,hzg,hzE,hzn⟩:=h.ext.map m _ hz;have hltN:=lt_of_some hout;have hkeep:Keeps w (setB w κ.μ.ν (.map (es.push { key:=y.kk.kv k,val:=.map (some (κ.μ m)),born:=clock }) (clock+1))) κ.S:=q5x rfl rfl hout κ.S;generalize hw':(setB w κ.μ.ν (.map (es.push { key:=y.kk.kv k,val:=.map (some (κ.μ m)),born:=clock }) (clock+1)))=w' at *
 let κ':Cx:={ κ with μ:={ κ.μ with inn:=λv=>if v=y.kk.kv k then some (κ.μ m) else κ.μ.inn v } }
 have hinn:∀ q:y.kk.Pay,q≠k→κ'.μ.inn (y.kk.kv q)=κ.μ.inn (y.kk.kv q):=λq hq=>by
  show (if y.kk.kv q=y.kk.kv k then _ else _)=_
  rw [if_neg (λe=>hq (qcq hp e))]
 have hinnk:κ'.μ.inn (y.kk.kv k)=some (κ.μ m):=if_pos rfl;have hne:∀ (i:Nat) x,y.xs[i]? = some x→x.1≠k:=λi x hx e=>by
  have:=q6w _ _ _ hk i x hx
  rw [e,q6f hp] at this;cases this
 have hoth:∀ (g:Nat) (o:Obj),g≠κ.μ.ν→w.heap[g]? = some o→w'.heap[g]? = some o:=λg o hgn ho=>by
  rw [← hw',q3q hgn];exact ho
 have H:∀ (c:Cell) v,c.Rep κ w v→((c.q4m m).q8b).Rep κ' w' v:=λc v hr=>by
  cases c with
  | mref j =>
   show Cell.Rep κ' w' (Cell.q8b (bif j.beq m then .any else .mref j)) v
   cases j.beq m
   ·exact q00 (κ':=κ') (c:=.mref j) rfl rfl rfl hkeep hr rfl
   ·trivial
  | iref kk k=>trivial
  | kseq f src =>
   cases src with
   | inner kk k=>trivial
   | map j =>
    show Cell.Rep κ' w' (Cell.q8b (bif j.beq m then .any else .kseq f (.map j))) v
    cases j.beq m
    ·exact q00 (κ':=κ') (c:=.kseq f (.map j)) rfl rfl rfl hkeep hr rfl
    ·trivial
   | none=>exact q00 (κ':=κ') rfl rfl rfl hkeep hr rfl
  | nref=>exact q00 (κ':=κ') rfl rfl rfl hkeep hr rfl
  | iter i=>exact q00 (κ':=κ') rfl rfl rfl hkeep hr rfl
  | fref=>exact q00 (κ':=κ') rfl rfl rfl hkeep hr rfl
  | fent kk k=>exact q00 (κ':=κ') rfl rfl rfl hkeep hr rfl
  | fp kk k sz i f=>exact q00 (κ':=κ') rfl rfl rfl hkeep hr rfl
  | fnew=>exact q00 (κ':=κ') rfl rfl rfl hkeep hr rfl
  | yld j=>exact q00 (κ':=κ') rfl rfl rfl hkeep hr rfl
  | fstamp=>exact q00 (κ':=κ') rfl rfl rfl hkeep hr rfl
  | any=>exact q00 (κ':=κ') rfl rfl rfl hkeep hr trivial
  | undef=>exact q00 (κ':=κ') rfl rfl rfl hkeep hr trivial
  | nil=>exact q00 (κ':=κ') rfl rfl rfl hkeep hr trivial
  | val k p=>exact q00 (κ':=κ') rfl rfl rfl hkeep hr trivial
  | ptr b off=>exact q00 (κ':=κ') rfl rfl rfl hkeep hr trivial
  | ep fs p f=>exact q00 (κ':=κ') rfl rfl rfl hkeep hr trivial
  | own r=>exact q00 (κ':=κ') rfl rfl rfl hkeep hr trivial
  | rp r sz i f=>exact q00 (κ':=κ') rfl rfl rfl hkeep hr trivial
  | sfx r sz i=>exact q00 (κ':=κ') rfl rfl rfl hkeep hr trivial
  | fn f=>exact q00 (κ':=κ') rfl rfl rfl hkeep hr trivial
  | clo f k ps=>exact q00 (κ':=κ') rfl rfl rfl hkeep hr trivial
  | fsl cls=>exact q00 (κ':=κ') rfl rfl rfl hkeep hr trivial
  | fel cls n=>exact q00 (κ':=κ') rfl rfl rfl hkeep hr trivial
  | nilm=>exact q00 (κ':=κ') rfl rfl rfl hkeep hr trivial
  | bnd f x p=>exact q00 (κ':=κ') rfl rfl rfl hkeep hr trivial
  | dyn t ks p=>exact q00 (κ':=κ') rfl rfl rfl hkeep hr trivial
 have HV:∀ k p v,Cell.Rep κ w (.val k p) v→Cell.Rep κ' w' (.val k p) v:=λk p v hr=>q3f (κ':=κ') rfl hkeep hr
 have hdrop:∀ j z,look? j (q1q m st.maps)=some z→j≠m∧st.map j=some z:=λj z hj=>by
  rw [look?_dropKey] at hj;split at hj
  ·cases hj
  ·rename_i e;exact ⟨e,hj⟩
 have hgrown:w.grownBy w' (some κ.μ.ν):=by rw [← hw'];exact q90
 refine ⟨κ',h.q8a (g:=λc=>(c.q4m m).q8b) (κ':=κ') (row:=some κ.μ.ν) rfl rfl rfl rfl rfl hgrown (λk e=>by injection e with e;subst e;exact ⟨hN.low,_,rfl,hout⟩) hkeep H rfl rfl rfl rfl rfl ?_ ?_ ?_ (λi z e=>nomatch e) (λi j z z' e=>nomatch e) (λx hx=>by have hx:st.fam=some x:=hx;rw [h.noFam hy] at hx;cases hx) (.inl (h.noFam hy)) (λg o ho hh=>hoth g o (λe=>by rw [e,hout] at hh;injection hh with hh;rw [← hh] at ho;cases ho) hh) rfl rfl ?_⟩
 rotate_right
 ·show st.lps.map (Lp.mapA (AV.mapC _))=st.lps.map (Lp.mapA (AV.mapC _))
  rfl
 ·intro j z hj
  obtain ⟨_,hj⟩:=hdrop j z hj;obtain ⟨es1,c1,h1,h2,h3⟩:=h.ext.map j z hj;exact ⟨es1,c1,hoth _ _ (hN.apart j z hj) h1,h2.mono HV,h3⟩
 ·intro j j' z z' hj hj' e
  obtain ⟨_,hj⟩:=hdrop j z hj;obtain ⟨_,hj'⟩:=hdrop j' z' hj';exact h.ext.maps j j' z z' hj hj' e
 ·intro y' hy'
  injection hy' with hy';subst hy';have hcase:∀ (i:Nat) x,(y.xs++[(k,zxs)])[i]? = some x→(i<y.xs.length∧y.xs[i]? = some x)∨(i=y.xs.length∧x=(k,zxs)):=λi x hx=>by
   rcases Nat.lt_trichotomy i y.xs.length with hlt | heq | hgt
   ·rw [Qc hlt] at hx;exact .inl ⟨hlt,hx⟩
   ·subst heq
    rw [Qb (QP _),Nat.sub_self] at hx;injection hx with hx;exact .inr ⟨rfl,hx.symm⟩
   ·rw [List.getElem?_eq_none (by simp;omega)] at hx;cases hx
  exact {
   out:=by
    refine ⟨_,_,by rw [← hw'];exact q4l hltN,by rw [Array.size_push,hsz];simp,λi x hx=>?_,λe he=>?_,?_⟩
    ·rcases hcase i x hx with ⟨hlt,hx⟩ | ⟨rfl,rfl⟩
     ·obtain ⟨e,he,q1,q2⟩:=hat i x hx
      refine ⟨e,?_,q1l HV _ _ q1,?_⟩
      ·rw [QE,if_neg (by rw [hsz];omega)];exact he
      ·rw [q2,hinn x.1 (hne i x hx)]
     ·refine ⟨{ key:=y.kk.kv k,val:=.map (some (κ.μ m)),born:=clock },by rw [QE,if_pos hsz.symm],ck_rep hp,?_⟩
      show Value.map (some (κ.μ m))=.map (κ'.μ.inn (y.kk.kv k));rw [hinnk]
    ·rw [QN,List.mem_append] at he
     rcases he with he | he
     ·exact Nat.lt_succ_of_lt (hborn e he)
     ·obtain rfl:=QK.1 he
      exact Nat.lt_succ_self _
    ·rw [QN,List.map_append,List.nodup_append]
     refine ⟨hnd,by simp,λa ha b hb e=>?_⟩
     simp only [List.map_cons,List.map_nil,QK] at hb;obtain ⟨x,hx,rfl⟩:=List.mem_map.1 ha;have:=hborn x hx;omega
   inn:=λi x hx=>by
    rcases hcase i x hx with ⟨hlt,hx⟩ | ⟨rfl,rfl⟩
    ·obtain ⟨g,es1,c1,q1,q2,q3,q4,q5,q6⟩:=hN.inn i x hx
     refine ⟨g,es1,c1,by rw [hinn x.1 (hne i x hx)];exact q1,hoth _ _ q5 q2,q3.mono HV,q4,q5,λj z hj=>q6 j z (hdrop j z hj).2⟩
    ·exact ⟨κ.μ m,zes,zclock,hinnk,hoth _ _ (hN.apart m _ hz) hzg,hzE.mono HV,hzn,hN.apart m _ hz,λj z hj e=>(hdrop j z hj).1 (h.ext.maps j m z _ (hdrop j z hj).2 hz e)⟩
   miss:=λq hq=>by
    obtain ⟨q1,q2⟩:=qas _ _ _ _ _ hq;have hqk:q≠k:=λe=>by rw [e,q6f hp] at q2;cases q2
    show κ'.μ.inn (y.kk.kv q)=none;rw [hinn q hqk];exact hN.miss q q1
   inj:=λi j x x' hx hx' e=>by
    have e:κ'.μ.inn (y.kk.kv x.1)=κ'.μ.inn (y.kk.kv x'.1):=e;rcases hcase i x hx with ⟨hlt,hx⟩ | ⟨rfl,rfl⟩ <;> rcases hcase j x' hx' with ⟨hlt',hx'⟩ | ⟨rfl,rfl⟩
    ·rw [hinn _ (hne i x hx),hinn _ (hne j x' hx')] at e
     exact hN.inj i j x x' hx hx' e
    ·rw [hinn _ (hne i x hx),hinnk] at e
     obtain ⟨g,es1,c1,q1,_,_,_,_,q6⟩:=hN.inn i x hx;rw [q1] at e;injection e with e;exact absurd e.symm (q6 m _ hz)
    ·rw [hinn _ (hne j x' hx'),hinnk] at e
     obtain ⟨g,es1,c1,q1,_,_,_,_,q6⟩:=hN.inn j x' hx';rw [q1] at e;injection e with e;exact absurd e (q6 m _ hz)
    ·rfl
   low:=hN.low
   apart:=λj z hj=>hN.apart j z (hdrop j z hj).2 }
theorem qfr {kk:CK} {k:kk.Pay}:∀ {l:List (Nat×ItP)},q9c kk k l→∀ i z,look? i l=some z→(∃ q:kk.Pay,z.src=.inner kk q∧q≠k)∨z.src=.none
 | [],_,i,z,h=>by cases h
 | (j,y)::r,ho,i,z,h=>by
  obtain ⟨h1,h2⟩:(match y.src with
   | .inner kk' k'=>match kk'.deq kk with
    | some ⟨h⟩=>¬ (h▸k')=k
    | none=>False
   | .none=>True
   | .map _=>False)∧q9c kk k r:=ho
  rw [look?_cons] at h;split at h
  ·injection h with h;subst h
   split at h1
   ·rename_i kk' k' hs
    split at h1
    ·rename_i e _
     subst e;exact .inl ⟨k',hs,h1⟩
    ·exact h1.elim
   ·rename_i hs;exact .inr hs
   ·exact h1.elim
  ·exact qfr h2 i z h
theorem Rel.setInner (h:Rel w0 κ st a w) {y:NRow} (hy:st.nest=some y) (hp:y.kk.plain=true) {k:y.kk.Pay} {l l':List (y.ik.Pay×y.iv.Pay)} (hk:y.at_ k=some l) (hoff:q9c y.kk k st.iters) {g:Nat} {es es':Array MapEntry} {clock clock':Nat} (hinn:κ.μ.inn (y.kk.kv k)=some g) (hg:w.heap[g]? = some (.map es clock)) (hE:EntRep κ w ⟨y.it,y.ik,y.iv,l'⟩ es' clock') :
  Rel w0 κ (st.setNest ⟨y.t,y.kk,y.it,y.ik,y.iv,Mp.put y.kk.eqB k l' y.xs⟩) a (setB w g (.map es' clock')):=by
 have hN:=h.ext.nest y hy;have hlt:=lt_of_some hg;have hkeep:Keeps w (setB w g (.map es' clock')) κ.S:=q5x rfl rfl hg κ.S;have HV:∀ k p v,Cell.Rep κ w (.val k p) v→Cell.Rep κ (setB w g (.map es' clock')) (.val k p) v:=λk p v hr=>q3f rfl hkeep hr
 obtain ⟨r,hr⟩:∃ r,Mp.idx y.kk.eqB k y.xs 0=some r:=by
  cases hi:Mp.idx y.kk.eqB k y.xs 0 with
  | none =>
   have:=Mp.q4t y.kk.eqB k y.xs 0
   rw [hi,show Mp.get y.kk.eqB k y.xs=_ from hk] at this;cases this
  | some r=>exact ⟨r,rfl⟩
 obtain ⟨q,_,hq,hqe,hq2⟩:=Mp.q52 _ _ _ _ _ _ hr;rw [Nat.sub_zero] at hq;have hqk:q.1=k:=(q4r hqe).symm;have hput:Mp.put y.kk.eqB k l' y.xs=y.xs.set r.1 (k,l'):=by rw [Mp.qbo _ _ _ _ _ _ _ hr,Nat.sub_zero]
 have hgq:∀ (i:Nat) x,y.xs[i]? = some x→κ.μ.inn (y.kk.kv x.1)=some g→i=r.1:=λi x hx e=>hN.inj i r.1 x q hx hq (by rw [e,hqk,hinn])
 obtain ⟨g0,es0,c0,p1,p2,p3,p4,p5,p6⟩:=hN.inn r.1 q hq;rw [hqk,hinn] at p1;injection p1 with p1;subst p1;have hoth:∀ (j:Nat) (o:Obj),j≠g→w.heap[j]? = some o→(setB w g (.map es' clock')).heap[j]? = some o:=λj o hgn ho=>(q3q hgn).trans ho
 have hlt2:r.1<y.xs.length:=(Q0.1 hq).1;have hcase:∀ (i:Nat) x,(y.xs.set r.1 (k,l'))[i]? = some x→(i≠r.1∧y.xs[i]? = some x)∨(i=r.1∧x=(k,l')):=λi x hx=>by
  rw [Q3] at hx;by_cases e:r.1=i
  ·rw [if_pos e,if_pos (by omega)] at hx
   injection hx with hx;exact .inr ⟨e.symm,hx.symm⟩
  ·rw [if_neg e] at hx;exact .inl ⟨λh=>e h.symm,hx⟩
 have hgrown:w.grownBy (setB w g (.map es' clock')) (some g):=q90;refine h.qiz (κ':=κ) (row:=some g) rfl rfl rfl rfl hgrown (λk e=>by injection e with e;subst e;exact ⟨p4,_,rfl,hg⟩) hkeep rfl rfl (λt v hv=>hv.keeps rfl rfl rfl hkeep (λg hg _=>hg)) (λb bs hb=>⟨bs,hb,λvs hv=>hv.mono (λc v hc=>hc.keeps rfl rfl rfl hkeep (λg hg _=>hg))⟩) ?_
 exact {
  sav:=λt=>(h.ext.sav t).keeps rfl rfl rfl hkeep (λg hg _=>hg)
  map:=λm z hz=>by
   obtain ⟨es1,c1,h1,h2,h3⟩:=h.ext.map m z hz;exact ⟨es1,c1,hoth _ _ (p6 m z hz) h1,h2.mono HV,h3⟩
  maps:=h.ext.maps
  nest:=λy' hy'=>by
   injection hy' with hy';subst hy';rw [hput];obtain ⟨eo,co,o1,o2,o3,o4,o5⟩:=hN.out;exact {
    out:=by
     refine ⟨eo,co,hoth _ _ (λe=>p5 e.symm) o1,by rw [o2];simp,λi x hx=>?_,o4,o5⟩
     rcases hcase i x hx with ⟨hne,hx⟩ | ⟨rfl,rfl⟩
     ·obtain ⟨e,he,q1,q2⟩:=o3 i x hx
      exact ⟨e,he,q1l HV _ _ q1,q2⟩
     ·obtain ⟨e,he,q1,q2⟩:=o3 r.1 q hq
      rw [hqk] at q1 q2;exact ⟨e,he,q1l HV _ _ q1,q2⟩
    inn:=λi x hx=>by
     rcases hcase i x hx with ⟨hne,hx⟩ | ⟨rfl,rfl⟩
     ·obtain ⟨g1,es1,c1,q1,q2,q3,q4,q5,q6⟩:=hN.inn i x hx
      refine ⟨g1,es1,c1,q1,hoth _ _ (λe=>hne (hgq i x hx (by rw [q1,e]))) q2,q3.mono HV,q4,q5,q6⟩
     ·exact ⟨g,es',clock',hinn,q4l hlt,hE.mono HV,p4,p5,p6⟩
    miss:=λq' hq'=>by
     have e:y.at_ q'=none:=by
      cases hh:y.at_ q' with
      | none=>rfl
      | some l0 =>
       obtain ⟨i,x,x1,x2,x3⟩:=get_mem _ _ _ _ hh;have hq'':Mp.get y.kk.eqB q' (y.xs.set r.1 (k,l'))=none:=hq';by_cases ei:i=r.1
       ·subst ei
        rw [hq] at x1;injection x1 with x1;have:=q6w _ _ _ hq'' r.1 (k,l') (by rw [Q3,if_pos rfl,if_pos hlt2])
        rw [← x1,hqk] at x2;rw [x2] at this;cases this
       ·have:=q6w _ _ _ hq'' i x (by rw [Q3,if_neg (λh=>ei h.symm)];exact x1)
        rw [x2] at this;cases this
     exact hN.miss q' e
    inj:=λi j x x' hx hx' e=>by
     have hkey:∀ (i:Nat) x,(y.xs.set r.1 (k,l'))[i]? = some x→∃ x0,y.xs[i]? = some x0∧x0.1=x.1:=λi x hx=>by
      rcases hcase i x hx with ⟨_,hx⟩ | ⟨rfl,rfl⟩
      ·exact ⟨x,hx,rfl⟩
      ·exact ⟨q,hq,hqk⟩
     obtain ⟨x0,a1,a2⟩:=hkey i x hx;obtain ⟨x1,b1,b2⟩:=hkey j x' hx';have e:κ.μ.inn (y.kk.kv x.1)=κ.μ.inn (y.kk.kv x'.1):=e;rw [← a2,← b2] at e;exact hN.inj i j x0 x1 a1 b1 e
    low:=hN.low
    apart:=hN.apart }
  iter:=λi z hz=>by
   have hz:st.iter i=some z:=hz;have hI:=h.ext.iter i z hz;have hne:κ.μ.θ i≠g:=λe=>by
    obtain ⟨_,hI⟩:=hI;rcases hI with ⟨a',b',s',q1,_⟩ | ⟨bm,es1,c1,seen,c2,_,_,q1,_⟩
    ·rw [e,hg] at q1;cases q1
    ·rw [e,hg] at q1;cases q1
   refine hI.move rfl HV (λo _ ho=>hoth _ _ hne ho) (λbm es c hbm ho=>hoth _ _ (λe=>?_) ho)
   rcases qfr hoff i z hz with ⟨q',hs,hne'⟩ | hs
   ·rw [hs] at hbm
    have hbm:κ.μ.inn (y.kk.kv q')=some bm:=hbm;rcases hN.val hp q' with ⟨l0,g1,es1,c1,v1,v2,v3,v4,v5,v6,v7,i0,x0,v8,v9,v10⟩ | ⟨v1,v2⟩
    ·rw [v2] at hbm
     injection hbm with hbm;have:=hgq i0 x0 v8 (by rw [v9,v2,hbm,e])
     subst this;rw [hq] at v8;injection v8 with v8;rw [← v8,hqk] at v9;exact hne' v9.symm
    ·rw [v2] at hbm;cases hbm
   ·rw [hs] at hbm;cases hbm
  iters:=h.ext.iters
  fam:=λx hx=>by have hx:st.fam=some x:=hx;rw [h.noFam hy] at hx;cases hx
  excl:=.inl (h.noFam hy)
  marks:=λD hD=>⟨(h.ext.marks D hD).1,hoth _ _ (λe=>by have:=(h.ext.marks D hD).2;rw [e,hg] at this;cases this) (h.ext.marks D hD).2⟩
  fresh:=h.ext.fresh
  busy:=λl hl=>by
   obtain ⟨h1,r,h2⟩:=h.ext.busy l hl;exact ⟨h1,r,hoth _ _ (λe=>by rw [e,hg] at h2;cases h2) h2⟩
  lps:=λi L hL=>(h.ext.lps i L hL).move (LpEq.refl L) rfl rfl (λc v hr=>hr.keeps rfl rfl rfl hkeep (λg hg _=>hg)) (λg' o ho hh=>hoth g' o (λe=>by rw [e,hg] at hh;injection hh with hh;rw [← hh] at ho;cases ho) hh)
  lpsd:=h.ext.lpsd
  scope:=h.ext.scope }
theorem Rel.qdy (h:Rel w0 κ st a w) (i:Nat) (z:ItP) {o:Obj} (ho:o.q2q=true) (hz:∀ κ':Cx,κ'.src z.src=κ.src z.src→κ'.S=κ.S→κ'.μ.θ i=w.heap.size→q59 w0.n0 κ' (w.alloc o) z w.heap.size) :
  ∃ κ',Rel w0 κ' (st.qdy i z) a (w.alloc o)∧κ'.μ.θ i=w.heap.size:=by
 have hbel:Below w.heap.size w (w.alloc o):=q02 (q03 w) _;have hkeep:Keeps w (w.alloc o) κ.S:=Keeps.below hbel κ.S
 let κ':Cx:={ κ with μ:={ κ.μ with θ:=λj=>if j=i then w.heap.size else κ.μ.θ j } }
 have hsrc:∀ s:Src,κ'.src s=κ.src s:=λs=>by cases s <;> rfl
 have H:∀ (c:Cell) v,c.Rep κ w v→(c.qe4 i).Rep κ' (w.alloc o) v:=λc v hr=>by
  cases c with
  | iter j =>
   show Cell.Rep κ' _ (bif j.beq i then .any else .iter j) v
   cases hb:j.beq i
   ·have hne:j≠i:=λe=>by rw [e,Nat.beq_refl] at hb;cases hb
    exact q00 (κ:=κ) (κ':=κ') (c:=.iter j) rfl rfl rfl hkeep hr (if_neg hne)
   ·trivial
  | mref j=>exact q00 (κ':=κ') rfl rfl rfl hkeep hr rfl
  | iref kk k=>exact q00 (κ':=κ') rfl rfl rfl hkeep hr rfl
  | kseq f src=>exact q00 (κ':=κ') rfl rfl rfl hkeep hr (hsrc src)
  | nref=>exact q00 (κ':=κ') rfl rfl rfl hkeep hr rfl
  | fref=>exact q00 (κ':=κ') rfl rfl rfl hkeep hr rfl
  | fent kk k=>exact q00 (κ':=κ') rfl rfl rfl hkeep hr rfl
  | fp kk k sz i f=>exact q00 (κ':=κ') rfl rfl rfl hkeep hr rfl
  | fnew=>exact q00 (κ':=κ') rfl rfl rfl hkeep hr rfl
  | yld j=>exact q00 (κ':=κ') rfl rfl rfl hkeep hr rfl
  | fstamp=>exact q00 (κ':=κ') rfl rfl rfl hkeep hr rfl
  | any=>exact q00 (κ':=κ') rfl rfl rfl hkeep hr trivial
  | undef=>exact q00 (κ':=κ') rfl rfl rfl hkeep hr trivial
  | nil=>exact q00 (κ':=κ') rfl rfl rfl hkeep hr trivial
  | val k p=>exact q00 (κ':=κ') rfl rfl rfl hkeep hr trivial
  | ptr b off=>exact q00 (κ':=κ') rfl rfl rfl hkeep hr trivial
  | ep fs p f=>exact q00 (κ':=κ') rfl rfl rfl hkeep hr trivial
  | own r=>exact q00 (κ':=κ') rfl rfl rfl hkeep hr trivial
  | rp r sz i f=>exact q00 (κ':=κ') rfl rfl rfl hkeep hr trivial
  | sfx r sz i=>exact q00 (κ':=κ') rfl rfl rfl hkeep hr trivial
  | fn f=>exact q00 (κ':=κ') rfl rfl rfl hkeep hr trivial
  | clo f k ps=>exact q00 (κ':=κ') rfl rfl rfl hkeep hr trivial
  | fsl cls=>exact q00 (κ':=κ') rfl rfl rfl hkeep hr trivial
  | fel cls n=>exact q00 (κ':=κ') rfl rfl rfl hkeep hr trivial
  | nilm=>exact q00 (κ':=κ') rfl rfl rfl hkeep hr trivial
  | bnd f x p=>exact q00 (κ':=κ') rfl rfl rfl hkeep hr trivial
  | dyn t ks p=>exact q00 (κ':=κ') rfl rfl rfl hkeep hr trivial
 have HV:∀ k p v,Cell.Rep κ w (.val k p) v→Cell.Rep κ' (w.alloc o) (.val k p) v:=λk p v hr=>q3f (κ':=κ') rfl hkeep hr
 have hit:∀ j z',(st.qdy i z).iter j=some z'→(j=i∧z'=z)∨(j≠i∧st.iter j=some z'):=λj z' hj=>by
  have hj:look? j ((i,z)::q1q i st.iters)=some z':=hj;rw [look?_cons,look?_dropKey] at hj;by_cases e:i=j
  ·rw [if_pos e] at hj;injection hj with hj;exact .inl ⟨e.symm,hj.symm⟩
  ·rw [if_neg e,if_neg (λh=>e h.symm)] at hj;exact .inr ⟨λh=>e h.symm,hj⟩
 have hlt:∀ j z',st.iter j=some z'→κ.μ.θ j<w.heap.size:=λj z' hj=>by
  obtain ⟨_,hI⟩:=h.ext.iter j z' hj;rcases hI with ⟨a',b',s',q1,_⟩ | ⟨bm,es1,c1,seen,c2,_,_,q1,_⟩
  ·exact lt_of_some q1
  ·exact lt_of_some q1
 refine ⟨κ',h.q8a (g:=Cell.qe4 i) (κ':=κ') (row:=none) rfl rfl rfl rfl rfl (QD w _ none) (λk e=>nomatch e) hkeep H rfl rfl rfl rfl rfl ?_ h.ext.maps ?_ ?_ ?_ (λy hy=>(h.ext.fam y hy).move (κ':=κ') rfl rfl ⟨rfl,rfl⟩ HV (λes c hh=>q1h hbel _ _ rfl hh) (λg _ hl _=>hbel.block g hl) (λg hs _=>hs.mapB (κ':=κ') rfl rfl rfl (Cell.qe4 i)) (h.ext.fam y hy).apart) h.ext.excl (λg o ho=>q1h hbel g o (q5j ho)) rfl rfl rfl,if_pos rfl⟩
 ·intro m y hy
  obtain ⟨es,clock,h1,h2,h3⟩:=h.ext.map m y hy;exact ⟨es,clock,q1h hbel _ _ rfl h1,h2.mono HV,h3⟩
 ·intro y hy
  exact {
   out:=by
    obtain ⟨es,clock,h1,h2,h3,h4⟩:=(h.ext.nest y hy).out;exact ⟨es,clock,q1h hbel _ _ rfl h1,h2,λi x hx=>let ⟨e,he,q1,q2⟩:=h3 i x hx;⟨e,he,q1l HV _ _ q1,q2⟩,h4⟩
   inn:=λi x hx=>by
    obtain ⟨g,es,clock,h1,h2,h3,h4⟩:=(h.ext.nest y hy).inn i x hx;exact ⟨g,es,clock,h1,q1h hbel _ _ rfl h2,h3.mono HV,h4⟩
   miss:=(h.ext.nest y hy).miss
   inj:=(h.ext.nest y hy).inj
   low:=(h.ext.nest y hy).low
   apart:=(h.ext.nest y hy).apart }
 ·intro j z' hj
  rcases hit j z' hj with ⟨rfl,rfl⟩ | ⟨hne,hj⟩
  ·show q59 _ κ' _ _ (if j=j then w.heap.size else κ.μ.θ j)
   rw [if_pos rfl];exact hz κ' (hsrc _) rfl (if_pos rfl)
  ·show q59 _ κ' _ _ (if j=i then w.heap.size else κ.μ.θ j)
   rw [if_neg hne];exact (h.ext.iter j z' hj).move (hsrc _) HV (λo ho=>q1h hbel _ o ho) (λbm es c _ ho=>q1h hbel bm _ rfl ho)
 ·intro j j' z1 z2 hj hj' e
  have e:(if j=i then w.heap.size else κ.μ.θ j)=(if j'=i then w.heap.size else κ.μ.θ j'):=e
  rcases hit j z1 hj with ⟨e1,_⟩ | ⟨hne,g1⟩ <;> rcases hit j' z2 hj' with ⟨e2,_⟩ | ⟨hne',g2⟩
  ·rw [e1,e2]
  ·rw [if_pos e1,if_neg hne'] at e
   have:=hlt j' z2 g2
   omega
  ·rw [if_neg hne,if_pos e2] at e
   have:=hlt j z1 g1
   omega
  ·rw [if_neg hne,if_neg hne'] at e
   exact h.ext.iters j j' z1 z2 g1 g2 e
theorem Rel.stepIter (h:Rel w0 κ st a w) {i:Nat} {z z':ItP} (hi:st.iter i=some z) {o:Obj} (ho:o.q2q=true) (hz:q59 w0.n0 κ (setB w (κ.μ.θ i) o) z' (κ.μ.θ i)) (hno:∀ es c,o≠QW es c):Rel w0 κ (st.setIter i z') a (setB w (κ.μ.θ i) o):=by
 have hI:=h.ext.iter i z hi;obtain ⟨o0,hm0,hh0,hn0⟩:∃ o0:Obj,o0.q2q=true∧w.heap[κ.μ.θ i]? = some o0∧∀ es c,o0≠QW es c:=by
  obtain ⟨_,hI⟩:=hI;rcases hI with ⟨a',b',s',q1,_⟩ | ⟨bm,es1,c1,seen,c2,_,_,q1,_⟩
  ·exact ⟨_,rfl,q1,λes c e=>nomatch e⟩
  ·exact ⟨_,rfl,q1,λes c e=>nomatch e⟩
 have hlow:=hI.1;have hctl:∀ (g:Nat) (o':Obj),o'.ctl=true→w.heap[g]? = some o'→(setB w (κ.μ.θ i) o).heap[g]? = some o':=λg o' ho' hh=>by
  rw [q3q (λe=>by
   rw [e] at hh;obtain ⟨_,hI'⟩:=hI;rcases hI' with ⟨a',b',s',q1,_⟩ | ⟨bm,es1,c1,seen,c2,_,_,q1,_⟩ <;> (rw [q1] at hh;injection hh with hh;rw [← hh] at ho';cases ho'))]
  exact hh
 have hkeep:Keeps w (setB w (κ.μ.θ i) o) κ.S:=q5x hm0 ho hh0 κ.S;have HV:∀ k p v,Cell.Rep κ w (.val k p) v→Cell.Rep κ (setB w (κ.μ.θ i) o) (.val k p) v:=λk p v hr=>q3f rfl hkeep hr
 have hmapsEq:∀ g es c,w.heap[g]? = some (QW es c)→(setB w (κ.μ.θ i) o).heap[g]? = some (QW es c):=λg es c hg=>by
  rw [q3q (λe=>by rw [e,hh0] at hg;injection hg with hg;exact hn0 es c hg)];exact hg
 have hit:∀ j y,(st.setIter i z').iter j=some y→(j=i∧y=z')∨(j≠i∧st.iter j=some y):=λj y hj=>by
  have hj:look? j ((i,z')::q1q i st.iters)=some y:=hj;rw [look?_cons,look?_dropKey] at hj;by_cases e:i=j
  ·rw [if_pos e] at hj;injection hj with hj;exact .inl ⟨e.symm,hj.symm⟩
  ·rw [if_neg e,if_neg (λh=>e h.symm)] at hj;exact .inr ⟨λh=>e h.symm,hj⟩
 have hold:∀ j y,(st.setIter i z').iter j=some y→∃ y0,st.iter j=some y0:=λj y hj=>by
  rcases hit j y hj with ⟨rfl,_⟩ | ⟨_,hj⟩
  ·exact ⟨z,hi⟩
  ·exact ⟨y,hj⟩
 refine h.qiz (κ':=κ) (row:=some (κ.μ.θ i)) rfl rfl rfl rfl q90 (λk e=>by injection e with e;subst e;exact ⟨hlow,o0,hm0,hh0⟩) hkeep rfl rfl (λt v hv=>hv.keeps rfl rfl rfl hkeep (λg hg _=>hg)) (λb bs hb=>⟨bs,hb,λvs hv=>hv.mono (λc v hc=>hc.keeps rfl rfl rfl hkeep (λg hg _=>hg))⟩) ?_
 exact {
  sav:=λt=>(h.ext.sav t).keeps rfl rfl rfl hkeep (λg hg _=>hg)
  map:=λm y hy=>by
   obtain ⟨es1,c1,h1,h2,h3⟩:=h.ext.map m y hy;exact ⟨es1,c1,hmapsEq _ _ _ h1,h2.mono HV,h3⟩
  maps:=h.ext.maps
  nest:=λy hy=>by
   have hN:=h.ext.nest y hy;exact {
    out:=by
     obtain ⟨es,clock,h1,h2,h3,h4⟩:=hN.out;exact ⟨es,clock,hmapsEq _ _ _ h1,h2,λi x hx=>let ⟨e,he,q1,q2⟩:=h3 i x hx;⟨e,he,q1l HV _ _ q1,q2⟩,h4⟩
    inn:=λi x hx=>by
     obtain ⟨g,es,clock,h1,h2,h3,h4⟩:=hN.inn i x hx;exact ⟨g,es,clock,h1,hmapsEq _ _ _ h2,h3.mono HV,h4⟩
    miss:=hN.miss
    inj:=hN.inj
    low:=hN.low
    apart:=hN.apart }
  iter:=λj y hj=>by
   rcases hit j y hj with ⟨rfl,rfl⟩ | ⟨hne,hj⟩
   ·exact hz
   ·have hI':=h.ext.iter j y hj
    exact hI'.move rfl HV (λo' _ ho'=>by rw [q3q (λe=>hne (h.ext.iters j i y z hj hi e))];exact ho') (λbm es c _ ho'=>hmapsEq bm es c ho')
  iters:=λj j' y y' hj hj' e=>by
   obtain ⟨y0,h0⟩:=hold j y hj;obtain ⟨y1,h1⟩:=hold j' y' hj';exact h.ext.iters j j' y0 y1 h0 h1 e
  fam:=λy hy=>(h.ext.fam y hy).move rfl rfl ⟨rfl,rfl⟩ HV (λes c hh=>hmapsEq _ es c hh) (λg _ _ hno=>q3q (λe=>hno o0 hm0 (by rw [e];exact hh0))) (λg hs _=>hs) (h.ext.fam y hy).apart
  excl:=h.ext.excl
  marks:=λD hD=>⟨(h.ext.marks D hD).1,hctl _ _ rfl (h.ext.marks D hD).2⟩
  fresh:=h.ext.fresh
  busy:=λl hl=>by
   obtain ⟨h1,r,h2⟩:=h.ext.busy l hl;exact ⟨h1,r,hctl _ _ rfl h2⟩
  lps:=λi L hL=>(h.ext.lps i L hL).move (LpEq.refl L) rfl rfl (λc v hr=>hr.keeps rfl rfl rfl hkeep (λg hg _=>hg)) hctl
  lpsd:=h.ext.lpsd
  scope:=h.ext.scope }
end
end R
end Go.Proofs.YtlmbfijhkcmncaaGreatDoor

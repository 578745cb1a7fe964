/-
  What is to be shown of a function's code, in plain terms: its operations, regions, branches and loops over what is known.
-/
import Derived.Test.YtfecgebhoondjaaGreatDoorPC
set_option linter.unusedVariables false
namespace Go.Proofs.YtfecgebhoondjaaGreatDoor
open Go.RowKit
namespace R
@[reducible] def Pays:List CK→Type
 | []=>Unit
 | [x]=>x.Pay
 | x::y::r=>x.Pay×Pays (y::r)
def q0r:(l:List CK)→Pays l→List Comp
 | [],_=>[]
 | [x],p=>[x.comp p]
 | x::y::r,p=>x.comp p.1::q0r (y::r) p.2
def q17:(l:List CK)→List AV→Option (Pays l)
 | [],[]=>some ()
 | [x],[.c y]=>q1h x y
 | x::y::r,.c z::zs=>match q1h x z,q17 (y::r) zs with
  | some p,some q=>some (p,q)
  | _,_=>none
 | _,_=>none
structure Con where
 f:FuncId
 args:List CK
 res:List CK
 pre:Pays args→Prop
 post:Pays args→Pays res→Prop
 fn:Option (Pays args→Pays res):=none
 lend:Bool:=false
def Con.of (f:FuncId) (args res:List CK) (pre:Pays args→Prop) (F:Pays args→Pays res):Con:={ f:=f,args:=args,res:=res,pre:=pre,post:=λp r=>r=F p,fn:=some F }
def Kd.flat:Kd→Bool
 | .sl _=>false
 | _=>true
def CK.flat:CK→Bool
 | .one k=>k.flat
 | .agg _=>false
def Kds.flat:Kds→Bool
 | .one k=>k.flat
 | .cons k ks=>k.flat&&ks.flat
def CK.q8w:CK→Bool
 | .one k=>k.flat
 | .agg ks=>ks.flat
def Con.lent (c:Con):Con:={ c with lend:=true }
def q1c (l:List CK) (r:Pays l):AV :=
 match q0r l r with
 | [x]=>.c x
 | xs=>.tup xs
def q8q (f:FuncId):List Con→Option Con
 | []=>none
 | c::r=>bif c.f.beq f then some c else q8q f r
def Cell.forget (b:Nat):Cell→Cell
 | .ptr b' off=>bif b'.beq b then .any else .ptr b' off
 | .clo f k ps=>bif ps.any (λp=>p.1.beq b) then .any else .clo f k ps
 | .fsl cls=>bif cls.any (λcl=>cl.2.2.any λp=>p.1.beq b) then .any else .fsl cls
 | .fel cls n=>bif cls.any (λcl=>cl.2.2.any λp=>p.1.beq b) then .any else .fel cls n
 | c=>c
def Comp.forget (b:Nat):Comp→Comp
 | .one c=>.one (c.forget b)
 | .agg cs=>.agg (cs.map (Cell.forget b))
def AV.forget (b:Nat):AV→AV
 | .c x=>.c (x.forget b)
 | .tup xs=>.tup (xs.map (Comp.forget b))
def q6v (b:Nat):List (Nat×List Cell)→List (Nat×List Cell)
 | []=>[]
 | (b',cs)::r=>bif b'.beq b then q6v b r else (b',cs.map (Cell.forget b))::q6v b r
def St.q8g (st:St) (d i:Nat) (cs:List Cell):St :=
 {st with env:=(d,.c (.one (.ptr i 0)))::st.env.map (λ(t,v)=>(t,v.forget i)),boxes:=(i,cs.map (Cell.forget i))::q6v i st.boxes,sav:=st.sav.map (λ(t,v)=>(t,v.forget i)),lps:=st.lps.map (Lp.mapA (AV.forget i)) }
def St.q74 (st:St) (b:Nat) (cs:List Cell):St:={ st with boxes:=(b,cs)::st.boxes }
def Cell.qb6 (r:Nat):Cell→Cell
 | .own r'=>bif r'.beq r then .any else .own r'
 | .rp r' sz i f=>bif r'.beq r then .any else .rp r' sz i f
 | .sfx r' sz i=>bif r'.beq r then .any else .sfx r' sz i
 | c=>c
def Cell.thaw (r:Nat) (x:Row):Cell→Cell
 | .own r'=>bif r'.beq r then .val (.sl x.fs) x.xs else .own r'
 | .rp r' sz i f=>bif r'.beq r then .any else .rp r' sz i f
 | .sfx r' sz i=>bif r'.beq r then .any else .sfx r' sz i
 | c=>c
def Comp.mapC (g:Cell→Cell):Comp→Comp
 | .one c=>.one (g c)
 | .agg cs=>.agg (cs.map g)
def AV.mapC (g:Cell→Cell):AV→AV
 | .c x=>.c (x.mapC g)
 | .tup xs=>.tup (xs.map (Comp.mapC g))
def q12 {α:Type} (r:Nat):List (Nat×α)→List (Nat×α)
 | []=>[]
 | (k,v)::l=>bif k.beq r then q12 r l else (k,v)::q12 r l
def St.mapC (st:St) (g:Cell→Cell):St:={ st with env:=st.env.map (λ(t,v)=>(t,v.mapC g)),boxes:=st.boxes.map (λ(b,cs)=>(b,cs.map g)),sav:=st.sav.map (λ(t,v)=>(t,v.mapC g)),lps:=st.lps.map (Lp.mapA (AV.mapC g)) }
def Cell.q3x (m:Nat):Cell→Cell
 | .mref m'=>bif m'.beq m then .any else .mref m'
 | .kseq f (.map m')=>bif m'.beq m then .any else .kseq f (.map m')
 | c=>c
def Cell.q7r:Cell→Cell
 | .iref _ _=>.any
 | .kseq _ (.inner _ _)=>.any
 | c=>c
def Cell.qj5:Cell→Cell
 | .nref=>.any
 | c=>c.q7r
def Cell.qf5 (i:Nat):Cell→Cell
 | .iter j=>bif j.beq i then .any else .iter j
 | c=>c
def St.qd3 (st:St) (m:Nat) (y:MRow):St:={ st.mapC (Cell.q3x m) with maps:=(m,y)::q12 m st.maps,iters:=[] }
def St.qdj (st:St) (m:Nat) (y:MRow):St:={ st with maps:=(m,y)::q12 m st.maps,iters:=[] }
def St.qh2 (st:St) (y:NRow):St:={ st.mapC Cell.qj5 with nest:=some y,iters:=[] }
def St.qh0 (st:St) (m:Nat) (y:NRow):St:={ st.mapC (λc=>(c.q3x m).q7r) with nest:=some y,maps:=q12 m st.maps,iters:=[] }
def St.setNest (st:St) (y:NRow):St:={ st with nest:=some y }
def Cell.dropFam:Cell→Cell
 | .fref=>.any
 | .fstamp=>.any
 | .fent _ _=>.any
 | .fp _ _ _ _ _=>.any
 | .fnew=>.any
 | c=>c
def Cell.qh6:Cell→Cell
 | .fent _ _=>.any
 | .fp _ _ _ _ _=>.any
 | .fnew=>.any
 | c=>c
def Cell.qdi:Cell→Cell
 | .fnew=>.any
 | c=>c
def Cell.qc8:Cell→Cell
 | .fstamp=>.any
 | c=>c
def St.newFam (st:St) (y:FRow):St:={ st.mapC Cell.dropFam with fam:=some y,iters:=[] }
def St.qba (st:St) (y:FRow) (k:y.kk.Pay) (l:List y.fs.Pay):St:={ st.mapC Cell.qdi with fam:=some { y with pend:=some (k,l) } }
def St.q7v (st:St) (y:FRow) (k:y.kk.Pay) (l:List y.fs.Pay):St:={ st.mapC Cell.qh6 with fam:=some { y with xs:=Mp.put y.kk.eqB k l y.xs,pend:=none,mark:=none },iters:=[] }
def St.entFam (st:St) (y:FRow) (k:y.kk.Pay):St:={ st.mapC Cell.qc8 with fam:=some { y with xs:=Mp.put y.kk.eqB k ((y.at_ k).getD []) y.xs,mark:=some k },iters:=[] }
def St.qdo (st:St) (i:Nat) (z:ItP):St:={ st.mapC (Cell.qf5 i) with iters:=(i,z)::q12 i st.iters }
def St.setIter (st:St) (i:Nat) (z:ItP):St:={ st with iters:=(i,z)::q12 i st.iters }
def itOf (st:St):Cell→Option ItP
 | .mref m=>match st.map m with
  | some y=>some ⟨.map m,y.kk,y.vk,y.xs,none⟩
  | none=>none
 | .iref kk k=>match st.nest with
  | some y=>match kk.deq y.kk with
   | some ⟨h⟩=>some ⟨.inner y.kk (h▸k),y.ik,y.iv,(y.at_ (h▸k)).getD [],none⟩
   | none=>none
  | none=>none
 | .nilm=>some ⟨.none,.one .bool,.one .bool,[],none⟩
 | _=>none
def q95 (kk:CK) (k:kk.Pay):List (Nat×ItP)→Prop
 | []=>True
 | (_,z)::r=>(match z.src with
  | .inner kk' k'=>match kk'.deq kk with
   | some ⟨h⟩=>¬ (h▸k')=k
   | none=>False
  | .none=>True
  | .map _=>False)∧q95 kk k r
def qb7 {a b c d:CK} (h:a=c) (h':b=d) (xs:List (a.Pay×b.Pay)):List (c.Pay×d.Pay):=h'▸h▸xs
def St.setRow (st:St) (r:Nat) (x:Row):St:={ st.mapC (Cell.qb6 r) with rows:=(r,x)::q12 r st.rows }
def St.freeze (st:St) (r:Nat):St :=
 match st.row r with
 | some x=>{ st.mapC (Cell.thaw r x) with rows:=q12 r st.rows }
 | none=>st
def ownsC:List Cell→List Nat
 | []=>[]
 | .own r::l=>r::ownsC l
 | _::l=>ownsC l
def q11:List AV→List Nat
 | []=>[]
 | .c (.one c)::l=>ownsC [c]++q11 l
 | .c (.agg cs)::l=>ownsC cs++q11 l
 | _::l=>q11 l
def St.q09 (st:St):List Nat→St
 | []=>st
 | r::l=>(st.freeze r).q09 l
def keysOf {α:Type}:List (Nat×α)→List Nat
 | []=>[]
 | (k,_)::l=>k::keysOf l
def q6h (P:Program) (e:TypeId):Option (Nat×Nat) :=
 match P.info? e with
 | some i=>match i.zero with
  | some z=>bif z.cells.size.beq i.size&&Nat.blt 0 i.size&&Nat.blt 0 i.bytes&&z.cells.toList.all (·.oneCell') then some (i.size,i.bytes) else none
  | none=>none
 | none=>none
def Kds.app:Kds→Kds→Kds
 | .one k,l=>.cons k l
 | .cons k ks,l=>.cons k (ks.app l)
mutual
def kdOf (P:Program):Nat→TypeId→Option Kd
 | 0,_=>none
 | n+1,t=>match P.underlying t with
  | some (.int k)=>some (.int k)
  | some .bool=>some .bool
  | some .string=>some .str
  | some (.slice e)=>(q8r P n e).map .sl
  | _=>none
def q8r (P:Program):Nat→TypeId→Option Kds
 | 0,_=>none
 | n+1,t=>match P.underlying t with
  | some (.struct fs)=>kdsAll P n (fs.toList.map (·.type))
  | some (.array len e)=>kdsAll P n (List.replicate len e)
  | _=>(kdOf P n t).map .one
def kdsAll (P:Program):Nat→List TypeId→Option Kds
 | 0,_=>none
 | n+1,[]=>none
 | n+1,[t]=>q8r P n t
 | n+1,t::l=>match q8r P n t,kdsAll P n l with
  | some k,some ks=>some (k.app ks)
  | _,_=>none
end
def ckOf (P:Program) (t:TypeId):Option CK :=
 match P.underlying t with
 | some (.struct _)=>(q8r P 20 t).map .agg
 | some (.array _ _)=>(q8r P 20 t).map .agg
 | _=>(kdOf P 20 t).map .one
def qbk (fs:Kds):Nat→List Cell→Option (List fs.Pay)
 | 0,[]=>some []
 | 0,_::_=>none
 | n+1,l=>match q0u fs (l.take fs.size),qbk fs n (l.drop fs.size) with
  | some x,some xs=>some (x::xs)
  | _,_=>none
def srcOf (st:St) (e:TypeId):AV→Option Row
 | .c (.one (.own r))=>st.row r
 | .c (.one (.val (.sl fs) xs))=>some ⟨e,fs,xs⟩
 | _=>none
def isOwn (r:Nat):AV→Bool
 | .c (.one (.own r'))=>r'.beq r
 | _=>false
def q3a {a b:Kds} (h:a=b) (xs:List a.Pay):List b.Pay:=h▸xs
def q0b (st:St):Option Nat→Bool
 | some d=>Nat.blt d st.n
 | none=>true
def evs (st:St):List Operand→List AV
 | []=>[]
 | x::r=>st.ev x::evs st r
def Kds.q85:(fs:Kds)→fs.Pay→Nat→Cell→Option fs.Pay
 | .one k,_,0,c=>q2q k c
 | .one _,_,_+1,_=>none
 | .cons k _,p,0,c=>match q2q k c with
  | some x=>some (x,p.2)
  | none=>none
 | .cons _ ks,p,n+1,c=>match ks.q85 p.2 n c with
  | some y=>some (p.1,y)
  | none=>none
def Kds.q9g (fs:Kds):fs.Pay→Nat→List Cell→Option fs.Pay
 | p,_,[]=>some p
 | p,f,c::r=>match fs.q85 p f c with
  | some q=>fs.q9g q (f+1) r
  | none=>none
def q4a (st:St):List (Nat×Operand)→List AV
 | []=>[]
 | (_,x)::r=>st.ev x::q4a st r
def St.putRow (st:St) (r:Nat) (x:Row):St:={ st with rows:=(r,x)::q12 r st.rows }
def freeOp:Op→Bool
 | .move _ | .assign _ | .pick _ _ _ | .load _ _ | .nilCheck _ | .fieldAddr _ _ _ | .field _ _ _ | .convert _ _ _ | .extract _ _ | .build _ _ | .makeFunc _ _ _ | .lookup _ _ _ _ | .entry _ | .makeInterface _ _=>true
 | .unOp .not _ _=>true
 | .binOp op _ _ _ _=>match op with
  | .eql | .neq | .lss | .leq | .gtr | .geq=>true
  | _=>false
 | .call { callee:=.builtin .len,.. }=>true
 | _=>false
def asks (op:Op) (c k:Prop):Prop:=bif freeOp op then k else c∧k
def vcall (c:Con) (xs:List AV) (o:Oper) (st:St) (args:Array Operand) (K:St→Prop):Prop :=
 match q17 c.args (evs (st.q09 (q11 xs)) args.toList) with
 | some p=>bif q0b st o.dst then c.pre p∧(bif c.lend&&c.res.all CK.q8w then (match c.fn with
   | some F=>K (st.put o.dst (q1c c.res (F p)))
   | none=>∀ r,c.post p r→K (st.put o.dst (q1c c.res r))) else (match c.fn with
   | some F=>K ((st.q09 (q11 xs)).put o.dst (q1c c.res (F p)))
   | none=>∀ r,c.post p r→K ((st.q09 (q11 xs)).put o.dst (q1c c.res r)))) else False
 | none=>False
def vput (P:Program) (st:St) (t:TypeId) (m k:AV) (v:Operand) (d:Option Nat) (K:St→Prop):Prop :=
 match P.underlying t,m,k,(st.q09 (q11 [st.ev v])).ev v with
 | some (.map kt _),.c (.one (.mref i)),.c kc,.c vc=>match (st.q09 (q11 [st.ev v])).map i with
  | some y=>match q1h y.kk kc,q1h y.vk vc with
   | some kp,some vp=>bif y.t.beq t&&q1i P kt y.kk&&q0b st d then K (((st.q09 (q11 [st.ev v])).qdj i ⟨y.t,y.kk,y.vk,Mp.put y.kk.eqB kp vp y.xs⟩).put d (.c (.one .undef))) else False
   | _,_=>False
  | none=>False
 | _,_,_,_=>False
def vputN (P:Program) (st:St) (t:TypeId) (k v:Operand) (d:Option Nat) (K:St→Prop):Prop :=
 match P.underlying t,st.nest,st.ev k,st.ev v with
 | some (.map kt _),some y,.c kc,.c (.one (.mref m))=>match q1h y.kk kc,st.map m with
  | some kp,some z=>match z.kk.deq y.ik,z.vk.deq y.iv with
   | some ⟨h1⟩,some ⟨h2⟩=>bif y.t.beq t&&(z.t.beq y.it&&(q1i P kt y.kk&&q0b st d)) then
     (y.at_ kp).isSome=false∧K ((st.qh0 m ⟨y.t,y.kk,y.it,y.ik,y.iv,y.xs++[(kp,qb7 h1 h2 z.xs)]⟩).put d (.c (.one .undef)))
    else False
   | _,_=>False
  | _,_=>False
 | _,_,_,_=>False
def vputI (P:Program) (st:St) (t:TypeId) (kk:CK) (q:kk.Pay) (k v:Operand) (d:Option Nat) (K:St→Prop):Prop :=
 match P.underlying t,st.nest,st.ev k,st.ev v with
 | some (.map kt _),some y,.c kc,.c vc=>match kk.deq y.kk,q1h y.ik kc,q1h y.iv vc with
  | some ⟨h⟩,some kp,some vp=>bif y.it.beq t&&(q1i P kt y.ik&&(y.kk.plain&&q0b st d)) then
    ((y.at_ (h▸q)).isSome=true∧q95 y.kk (h▸q) st.iters) ∧
     K ((st.setNest ⟨y.t,y.kk,y.it,y.ik,y.iv,Mp.put y.kk.eqB (h▸q) (Mp.put y.ik.eqB kp vp ((y.at_ (h▸q)).getD [])) y.xs⟩).put d (.c (.one .undef)))
   else False
  | _,_,_=>False
 | _,_,_,_=>False
def vputF (P:Program) (st:St) (t:TypeId) (k v:Operand) (d:Option Nat) (K:St→Prop):Prop :=
 match P.underlying t,st.fam,st.ev k,st.ev v with
 | some (.map kt _),some y,.c kc,.c (.one .fnew)=>match q1h y.kk kc,y.pend with
  | some kp,some (k0,l)=>bif y.t.beq t&&(q1i P kt y.kk&&q0b st d) then kp=k0∧K ((st.q7v y k0 l).put d (.c (.one .undef))) else False
  | _,_=>False
 | _,_,_,_=>False
def vputX (P:Program) (st:St) (t:TypeId) (m k v:Operand) (d:Option Nat) (K:St→Prop):Prop :=
 match st.ev m with
 | .c (.one .nref)=>vputN P st t k v d K
 | .c (.one (.iref kk q))=>vputI P st t kk q k v d K
 | .c (.one .fref)=>vputF P st t k v d K
 | _=>vput P st t (st.ev m) (st.ev k) v d K
def ventry (P:Program) (st:St) (t:TypeId) (m k:Operand) (d:Option Nat) (K:St→Prop):Prop :=
 match P.underlying t,st.fam,st.ev m,st.ev k,d with
 | some (.map kt et),some y,.c (.one .fref),.c kc,some d=>match q1h y.kk kc with
  | some k=>bif y.t.beq t&&(q1i P kt y.kk&&(q4l P et&&(y.pend.isNone&&Nat.blt d st.n))) then K ((st.entFam y k).set d (.tup [.one (.fent y.kk k),.one .fstamp])) else False
  | none=>False
 | _,_,_,_,_=>False
def vstamp (P:Program) (st:St) (t:TypeId) (m s v:Operand) (d:Option Nat) (K:St→Prop):Prop :=
 match P.underlying t,st.fam,st.ev m,st.ev s,st.ev v with
 | some (.map kt _),some y,.c (.one .fref),.c (.one .fstamp),.c (.one .fnew)=>match y.mark,y.pend with
  | some kp,some (k0,l)=>bif y.t.beq t&&(q1i P kt y.kk&&q0b st d) then kp=k0∧K ((st.q7v y k0 l).put d (.c (.one .undef))) else False
  | _,_=>False
 | _,_,_,_,_=>False
def vnext (st:St) (x:AV) (d:Option Nat) (K:St→Prop):Prop :=
 match x with
 | .c (.one (.iter i))=>match st.iter i with
  | some z=>bif q0b st d then
    (z.left=[]→K (st.put d (.tup [.one (.val .bool false)]))) ∧
    ∀ (j:Nat) e,z.left[j]? = some e→K ((st.setIter i ⟨z.src,z.kk,z.vk,z.left.eraseIdx j,some e⟩).put d (.tup [.one (.val .bool true),z.kk.comp e.1,z.vk.comp e.2]))
   else False
  | none=>False
 | _=>False
def vmake (P:Program) (st:St) (t kt et:TypeId) (d:Nat) (K:St→Prop):Prop :=
 match ckOf P kt,ckOf P et with
 | some kk,some vk=>bif Nat.blt d st.n then K ((st.qd3 (st.off+d) ⟨t,kk,vk,[]⟩).set d (.c (.one (.mref (st.off+d))))) else False
 | _,_=>False
def famOk (P:Program) (st:St) (e:TypeId):Bool:=(q72 P e==some true)&&(st.fam.isNone&&st.nest.isNone)
def vmakeF (P:Program) (st:St) (t kt et e:TypeId) (d:Nat) (K:St→Prop):Prop :=
 bif famOk P st e then (match ckOf P kt,q8r P 20 e,q10 P e with
  | some kk,some fs,some n=>bif n.beq fs.size&&Nat.blt d st.n then K ((st.newFam { t:=t,kk:=kk,e:=e,fs:=fs,xs:=[] }).set d (.c (.one .fref))) else False
  | _,_,_=>False)
 else vmake P st t kt et d K
def eqN:Nat→Nat→Bool
 | 0,0=>true
 | a+1,b+1=>Nat.beq a b
 | _,_=>false
theorem eqN_eq (a b:Nat) (h:eqN a b=true):a=b:=by
 cases a with
 | zero=>cases b with
  | zero=>rfl
  | succ b=>cases h
 | succ a=>cases b with
  | zero=>cases h
  | succ b=>exact congrArg Nat.succ (Nat.eq_of_beq_eq_true h)
def vop (P:Program) (cons:List Con) (o:Oper) (st:St) (K:St→Prop):Prop :=
 match o.op with
 | .alloc e=>match o.dst,zeroCells P e with
  | some d,some cs=>bif Nat.blt d st.n then K (st.q8g d (st.off+d) cs) else False
  | _,_=>False
 | .box _ x=>match o.dst,q4g (st.ev x) with
  | some d,some cs=>bif Nat.blt d st.n then K (st.q8g d (st.off+d) cs) else False
  | _,_=>False
 | .makeMap t none=>match P.underlying t,o.dst with
  | some (.map kt et),some d=>match P.underlying et with
   | some (.map kt2 et2)=>match st.nest,ckOf P kt,ckOf P kt2,ckOf P et2 with
    | none,some kk,some ik,some iv=>bif Nat.blt d st.n&&st.fam.isNone then K ((st.qh2 ⟨t,kk,et,ik,iv,[]⟩).set d (.c (.one .nref))) else False
    | _,_,_,_=>False
   | some (.slice e)=>vmakeF P st t kt et e d K
   | _=>vmake P st t kt et d K
  | _,_=>False
 | .mapUpdate t m k v=>vputX P st t m k v o.dst K
 | .mapEntry t m k=>ventry P st t m k o.dst K
 | .entryStore t m s v=>vstamp P st t m s v o.dst K
 | .insert t m k v=>vputX P st t m k v o.dst K
 | .range t x=>match P.underlying t,o.dst,st.ev x with
  | some (.map _ _),some d,.c (.one c)=>match itOf st c with
   | some z=>bif Nat.blt d st.n then K ((st.qdo (st.off+d) z).set d (.c (.one (.iter (st.off+d))))) else False
   | none=>False
  | _,_,_=>False
 | .next x false=>vnext st (st.ev x) o.dst K
 | .store t x y=>match st.ev x,cellsIn st y,q10 P t with
  | .c (.one (.ptr b off)),some cs,some n=>bif n.beq cs.length&&q0b st o.dst then
    match st.box b with
    | some bs=>match setCells bs off cs with
     | some bs'=>K ((st.q74 b bs').put o.dst (.c (.one .undef)))
     | none=>False
    | none=>False
   else False
  | .c (.one (.rp r sz i f)),some _,some n=>match q4g ((st.q09 (q11 [st.ev y])).ev y),(st.q09 (q11 [st.ev y])).row r with
   | some cs,some z=>bif n.beq cs.length&&q0b st o.dst&&sz.beq z.fs.size then
     match z.fs.q9g (z.xs.getD i z.fs.dflt) f cs with
     | some x'=>match (st.q09 (q11 [st.ev y])).ev x with
      | .c (.one (.rp r2 sz2 i2 f2))=>bif eqN r2 r&&(eqN sz2 sz&&(eqN f2 f&&i2.beq i)) then
        K (((st.q09 (q11 [st.ev y])).putRow r ⟨z.e,z.fs,z.xs.set i x'⟩).put o.dst (.c (.one .undef)))
       else False
      | _=>False
     | none=>False
    else False
   | _,_=>False
  | _,_,_=>False
 | .call { callee:=.value (.func f),args,argTypes }=>match q8q f cons with
  | some c=>vcall c (evs st args.toList) o st args K
  | none=>False
 | .call { callee:=.builtin .append,args,argTypes }=>match args.toList,argTypes.toList,o.dst with
  | [s,x],[t,t'],some d=>match P.underlying t,srcOf st 0 (st.ev x) with
   | some (.slice e),some z=>match q6h P e with
    | some (size,bytes)=>match st.ev s with
     | .c (.one (.own r))=>match st.row r with
      | some y=>match z.fs.deq y.fs with
       | some ⟨h⟩=>bif t'.beq t&&y.e.beq e&&y.fs.size.beq size&&Nat.blt d st.n&&!isOwn r (st.ev x) then
         (y.xs.length+z.xs.length)*bytes≤140737488355328∧K ((st.setRow r ⟨e,y.fs,y.xs++q3a h z.xs⟩).set d (.c (.one (.own r))))
        else False
       | none=>False
      | none=>False
     | .c (.one .nil)=>bif t'.beq t&&z.fs.size.beq size&&Nat.blt d st.n then
       z.xs.length*bytes≤140737488355328∧K ((st.setRow (st.off+d) ⟨e,z.fs,z.xs⟩).set d (.c (.one (.own (st.off+d)))))
      else False
     | .c (.one (.fent kk k))=>match st.fam with
      | some y=>match kk.deq y.kk,z.fs.deq y.fs with
       | some ⟨h⟩,some ⟨h'⟩=>bif t'.beq t&&(y.e.beq e&&(y.fs.size.beq size&&(Nat.blt d st.n&&(y.pend.isNone&&y.kk.plain)))) then
         (((y.at_ (h▸k)).getD []).length+z.xs.length)*bytes≤140737488355328∧K ((st.qba y (h▸k) ((y.at_ (h▸k)).getD []++q3a h' z.xs)).set d (.c (.one .fnew)))
        else False
       | _,_=>False
      | none=>False
     | _=>False
    | none=>False
   | _,_=>False
  | _,_,_=>False
 | .buildSlice t len parts=>match P.underlying t,o.dst with
  | some (.slice e),some d=>match q6h P e,q8r P 20 e with
   | some (size,_),some fs=>match q4j (st.q09 (q11 (q4a st parts.toList))) ((List.range len).map λi=>(i*size,size)) (List.replicate (len*size) .any) parts.toList with
    | some l=>match qbk fs len l with
     | some xs=>bif fs.size.beq size&&Nat.blt d (st.q09 (q11 (q4a st parts.toList))).n&&Nat.ble (len*size) 16777216 then K (((st.q09 (q11 (q4a st parts.toList))).setRow (st.off+d) ⟨e,fs,xs⟩).set d (.c (.one (.own (st.off+d))))) else False
     | none=>False
    | none=>False
   | _,_=>False
  | _,_=>False
 | .makeSlice t x y=>match P.underlying t,o.dst,st.ev x,st.ev y with
  | some (.slice e),some d,.c (.one (.val (.int _) n)),.c (.one (.val (.int _) m))=>match q6h P e,q8r P 20 e,zeroCells P e with
   | some (size,bytes),some fs,some zc=>match q0u fs zc with
    | some z=>bif fs.size.beq size&&Nat.blt d st.n then
      (0≤n∧n=m∧n*(bytes:Int)≤140737488355328)∧K ((st.setRow (st.off+d) ⟨e,fs,List.replicate n.toNat z⟩).set d (.c (.one (.own (st.off+d)))))
     else False
    | none=>False
   | _,_,_=>False
  | _,_,_,_=>False
 | op=>match rop P st op with
  | .ok c v=>bif q0b st o.dst then asks o.op c (K (st.put o.dst v)) else False
  | .no=>False
abbrev Inl:Type:=FuncId→List Comp→Nat→St→(List Comp→St→Prop)→(Cell→St→Prop)→Prop
def noInl:Inl:=λ_ _ _ _ _ _=>False
def q5w:List AV→Option (List Comp)
 | []=>some []
 | .c x::r=>(q5w r).map (x::·)
 | .tup _::_=>none
def q81 (ps:List (Nat×Nat)):List Comp:=ps.map λp=>.one (.ptr p.1 p.2)
def retAV:List Comp→AV
 | [x]=>.c x
 | xs=>.tup xs
def vin (H:Inl) (KP:Cell→St→Prop) (f:FuncId) (ahead behind:List (Nat×Nat)) (o:Oper) (st:St) (args:List Operand) (K:St→Prop):Prop :=
 match q5w (evs st args) with
 | some xs=>bif q0b st o.dst then H f (q81 ahead++xs++q81 behind) ((st.off+o.dst.getD f+1)*1000) st (λrs st'=>K (st'.put o.dst (retAV rs))) KP else False
 | none=>False
def allP:List Nat→(Nat→Prop)→Prop
 | [],_=>True
 | [i],p=>p i
 | i::r,p=>p i∧allP r p
def qb4:List Cell→Option (List (FuncId×Nat×List (Nat×Nat)))
 | []=>some []
 | .clo f k ps::r=>match qb4 r with
  | some l=>some ((f,k,ps)::l)
  | none=>none
 | _::_=>none
def vfsl (P:Program) (e:TypeId) (len:Nat) (parts:Array (Nat×Operand)) (o:Oper) (st:St) (K:St→Prop):Prop :=
 match q6h P e,o.dst with
 | some (size,_),some d=>match q4j st ((List.range len).map λi=>(i*size,size)) (List.replicate (len*size) .any) parts.toList with
  | some l=>match qb4 l with
   | some cls=>bif size.beq 1&&(cls.length.beq len&&(Nat.blt d st.n&&Nat.ble (len*size) 16777216)) then K (st.set d (.c (.one (.fsl cls)))) else False
   | none=>False
  | none=>False
 | _,_=>False
def vfel (P:Program) (t:TypeId) (cls:List (FuncId×Nat×List (Nat×Nat))) (n:Int) (o:Oper) (st:St) (K:St→Prop):Prop :=
 bif (q72 P t==some false)&&q0b st o.dst then allP (List.range cls.length) λi=>match cls[i]? with
  | some cl=>n=(i:Int)→K (st.put o.dst (.c (.one (.clo cl.1 cl.2.1 cl.2.2))))
  | none=>True
 else False
def vcut (P:Program) (t:TypeId) (r:Nat) (lo hi:Option Operand) (o:Oper) (st:St) (K:St→Prop):Prop :=
 match P.underlying t,st.row r,o.dst with
 | some (.slice e),some y,some d=>bif y.e.beq e&&((q10 P e==some y.fs.size)&&Nat.blt d st.n) then
   (match lo,hi with
   | some _,none=>match lowOf st lo with
    | some l=>(0≤l∧l<y.xs.length)∧K (st.set d (.c (.one (.sfx r y.fs.size l.toNat))))
    | none=>False
   | none,some _=>match q8h st y.xs.length hi with
    | some h=>(0≤h∧h≤y.xs.length)∧K ((st.setRow r ⟨y.e,y.fs,y.xs.take h.toNat⟩).set d (.c (.one (.own r))))
    | none=>False
   | _,_=>False) else False
 | _,_,_=>False
def vclear (P:Program) (args:List Operand) (argTypes:List TypeId) (o:Oper) (st:St) (K:St→Prop):Prop :=
 match args,argTypes,o.dst with
 | [x],[t],none=>match st.ev x,P.underlying t with
  | .c (.one (.sfx r sz i)),some (.slice e)=>match st.row r,zeroCells P e,q6h P e with
   | some y,some zc,some (size,_)=>match q0u y.fs zc with
    | some z=>bif y.e.beq e&&(sz.beq y.fs.size&&size.beq y.fs.size) then K (st.putRow r ⟨y.e,y.fs,y.xs.take i++List.replicate (y.xs.length-i) z⟩) else False
    | none=>False
   | _,_,_=>False
  | _,_=>False
 | _,_,_=>False
def vopI (P:Program) (cons:List Con) (H:Inl) (KP:Cell→St→Prop) (o:Oper) (st:St) (K:St→Prop):Prop :=
 match o.op with
 | .call { callee:=.value x,args,.. }=>match st.ev x with
  | .c (.one (.fn f))=>match q8q f cons,x with
   | some _,.func _=>vop P cons o st K
   | _,_=>bif Nat.blt f 1000000000 then vin H KP f [] [] o st args.toList K else False
  | .c (.one (.clo f k ps))=>bif Nat.blt f 1000000000 then vin H KP f (ps.take k) (ps.drop k) o st args.toList K else False
  | _=>False
 | .panic x=>match st.ev x with
  | .c (.one (.dyn t ks p))=>KP (.dyn t ks p) st
  | _=>False
 | .buildSlice t len parts=>match P.underlying t with
  | some (.slice e)=>match q8r P 20 e with
   | none=>vfsl P e len parts o st K
   | some _=>vop P cons o st K
  | _=>vop P cons o st K
 | .load t x=>match st.ev x with
  | .c (.one (.fel cls n))=>vfel P t cls n o st K
  | _=>vop P cons o st K
 | .slice t x lo hi none=>match st.ev x with
  | .c (.one (.own r))=>vcut P t r lo hi o st K
  | _=>vop P cons o st K
 | .call { callee:=.builtin .clear,args,argTypes }=>vclear P args.toList argTypes.toList o st K
 | _=>vop P cons o st K
def vopJ (P:Program) (cons:List Con) (H:Inl) (o:Oper) (st:St) (K:St→Prop):Prop :=
 match o.op with
 | .call { callee:=.value x,args,.. }=>match st.ev x with
  | .c (.one (.fn f))=>match q8q f cons,x with
   | some _,.func _=>vop P cons o st K
   | _,_=>bif Nat.blt f 1000000000 then vin H (λ_ _=>False) f [] [] o st args.toList K else False
  | .c (.one (.clo f k ps))=>bif Nat.blt f 1000000000 then vin H (λ_ _=>False) f (ps.take k) (ps.drop k) o st args.toList K else False
  | _=>False
 | .panic _=>False
 | _=>vop P cons o st K
def vopQ (P:Program) (cons:List Con) (o:Oper) (st:St) (K:St→Prop):Prop :=
 match o.op with
 | .call { callee:=.value (.func f),args,argTypes }=>match q8q f cons with
  | some c=>match q17 c.args (evs (st.q09 (q11 (evs st args.toList))) args.toList) with
   | some p=>bif q0b st o.dst&&c.res.all CK.flat then c.pre p∧(match c.fn with
     | some F=>K ((st.q09 (q11 (evs st args.toList))).put o.dst (q1c c.res (F p)))
     | none=>(∃ r,c.post p r∧∀ r',c.post p r'→r'=r)∧∀ r,c.post p r→K ((st.q09 (q11 (evs st args.toList))).put o.dst (q1c c.res r))) else False
   | none=>False
  | none=>False
 | op=>match rop P st op with
  | .ok c v=>bif q0b st o.dst then asks o.op c (K (st.put o.dst v)) else False
  | .no=>False
def q3e (n:Nat):List (Nat×AV)→List (Nat×AV)
 | []=>[]
 | (t,v)::r=>bif Nat.blt t n then (t,v)::q3e n r else q3e n r
def shiftUp (n:Nat):List (Nat×AV)→List (Nat×AV)
 | []=>[]
 | (t,v)::r=>(t+n,v)::shiftUp n r
def q5t (n:Nat):List (Nat×AV)→List (Nat×AV)
 | []=>[]
 | (t,v)::r=>bif Nat.blt t n then q5t n r else (t-n,v)::q5t n r
def Cell.q3g (j:Nat):Cell→Cell
 | .yld i=>bif i.beq j then .any else .yld i
 | c=>c
def memN (t:Nat):List Nat→Bool
 | []=>false
 | u::r=>bif u.beq t then true else memN t r
def q8e {α:Type}:List Nat→List (Nat×α)→List (Nat×α)
 | _,[]=>[]
 | seen,(t,v)::r=>bif memN t seen then q8e seen r else (t,v)::q8e (t::seen) r
def zipPs:List Nat→List Comp→List (Nat×AV)
 | p::ps,x::xs=>zipPs ps xs++[(p,.c x)]
 | _,_=>[]
def qgv (st:St) (L:Lp) (xs:List Comp) (off:Nat):St:={ n:=L.n,env:=zipPs L.ps xs++L.env,boxes:=st.boxes,rows:=st.rows,sav:=q3e st.n (q8e [] st.env)++shiftUp st.n st.sav,maps:=st.maps,off:=off,nest:=st.nest,iters:=st.iters,fam:=st.fam,lps:=st.lps }
def q3m (n off j:Nat) (x:Option Jmp) (st:St):St:={ n:=n,env:=q3e n st.sav,boxes:=st.boxes,rows:=st.rows,sav:=q5t n st.sav,maps:=st.maps,off:=off,nest:=st.nest,iters:=st.iters,fam:=st.fam,lps:=qa5 j false x st.lps }
def St.pushLp (st:St) (ps:List Nat):St:={ st.mapC (Cell.q3g st.off) with lps:=⟨st.off,st.n,(st.mapC (Cell.q3g st.off)).env,ps,false,none⟩::(st.mapC (Cell.q3g st.off)).lps }
def St.busyLp (st:St) (j:Nat):St:={ st with lps:=qa5 j true none st.lps }
def St.popLp (st:St) (j:Nat):St:={ st with lps:=q38 j st.lps }
structure Post where
 normal:St→Prop
 exit:Nat→St→Prop
 ret:St→Prop
 panic:Cell→St→Prop:=λ_ _=>False
def yieldOf (j:Nat) (run:St→Post→Prop) (B:Inl):Inl:=λf xs off st K KP =>
 bif f.beq (1000000000+j) then
  match q55 j st.lps with
  | some L=>match L.jump with
   | some _=>False
   | none=>bif !L.busy&&(xs.length.beq L.ps.length&&L.ps.all (Nat.blt · L.n)) then
     run (qgv st L xs ((j+1)*1000+700)) { normal:=λst2=>K [.one (.val .bool true)] (q3m st.n st.off j none st2),exit:=λid st2=>K [.one (.val .bool false)] (q3m st.n st.off j (some (.exit id)) st2),ret:=λst2=>K [.one (.val .bool false)] (q3m st.n st.off j (some .ret) st2) }
    else False
  | none=>False
 else B f xs off st K KP
def qhc (Q:Post) (j:Nat) (st:St):Prop :=
 match q55 j st.lps with
 | some L=>bif L.busy then False else match L.jump with
  | none=>Q.normal (st.popLp j)
  | some .ret=>Q.ret (st.popLp j)
  | some (.exit id)=>Q.exit id (st.popLp j)
 | none=>False
def q9l (j:Nat) (st:St) (K:St→Prop):Prop :=
 match q55 j st.lps with
 | some L=>match L.jump with
  | none=>bif L.busy then False else K (st.busyLp j)
  | some _=>False
 | none=>False
def vopY (P:Program) (cons:List Con) (H:Inl) (KP:Cell→St→Prop) (o:Oper) (st:St) (K:St→Prop):Prop :=
 match o.op with
 | .call { callee:=.value x,args,.. }=>match st.ev x with
  | .c (.one (.yld j))=>vin H (λ_ _=>False) (1000000000+j) [] [] o st args.toList K
  | _=>vopI P cons H KP o st K
 | _=>vopI P cons H KP o st K
inductive Way where
 | run
 | skip
 | part (t:Nat) (b want:Bool)
 | no
def q1p (ops:List Oper) (st:St) (o:Oper):Way :=
 match o.guard with
 | none=>.run
 | some (j,want)=>match (ops[j]?).bind (·.dst) with
  | some t=>match st.get t with
   | .c (.one (.val .bool b))=>.part t b want
   | .c (.one .undef)=>.skip
   | _=>.no
  | none=>.no
def vgo (V:Oper→St→(St→Prop)→Prop) (o:Oper) (st:St) (w:Way) (K:St→Prop):Prop :=
 match w with
 | .run=>V o st K
 | .skip=>bif q0b st o.dst then K (st.put o.dst (.c (.one .undef))) else False
 | .part t b want=>bif q0b st o.dst then
   bif b then (bif want then V o (st.set t (bool true)) K else K ((st.set t (bool true)).put o.dst (.c (.one .undef))))
   else (bif want then K ((st.set t (bool false)).put o.dst (.c (.one .undef))) else V o (st.set t (bool false)) K)
  else False
 | .no=>False
def vops (V:Oper→St→(St→Prop)→Prop) (ops:List Oper):List Oper→St→(St→Prop)→Prop
 | [],st,K=>K st
 | o::r,st,K=>vgo V o st (q1p ops st o) λst'=>vops V ops r st' K
def scalarCall (cons:List Con):Op→Bool
 | .alloc _ | .box _ _ | .store _ _ _ | .buildSlice _ _ _ | .makeSlice _ _ _ | .makeMap _ _ | .mapUpdate _ _ _ _ | .mapEntry _ _ _ | .entryStore _ _ _ _ | .insert _ _ _ _ | .range _ _ | .next _ _=>false
 | .call { callee:=.value (.func f),.. }=>match q8q f cons with
  | some c=>c.res.all CK.flat
  | none=>false
 | .call { callee:=.builtin b,.. }=>match b with
  | .append | .copy | .delete | .clear=>false
  | _=>true
 | _=>true
def q1n (cons:List Con):List Oper→Nat
 | []=>0
 | o::r=>bif scalarCall cons o.op then q1n cons r+1 else 0
def q75:Op→Bool
 | .store _ _ _ | .mapUpdate _ _ _ _ | .mapEntry _ _ _ | .entryStore _ _ _ _ | .insert _ _ _ _ | .next _ _=>false
 | .call { callee:=.builtin b,.. }=>match b with
  | .len=>true
  | .min=>true
  | .max=>true
  | _=>false
 | _=>true
def q8t:Op→Bool
 | .alloc _ | .box _ _ | .store _ _ _ | .buildSlice _ _ _ | .makeSlice _ _ _ | .makeMap _ _ | .mapUpdate _ _ _ _ | .mapEntry _ _ _ | .entryStore _ _ _ _ | .insert _ _ _ _ | .range _ _ | .next _ _=>false
 | .call { callee:=.builtin .len,.. }=>true
 | .call { callee:=.builtin .min,.. }=>true
 | .call { callee:=.builtin .max,.. }=>true
 | .call _=>false
 | _=>true
def qae (ops:Array Oper) (j:Nat):Bool:=match ops[j]? with
 | some o=>q75 o.op
 | none=>true
def waiters (ops:Array Oper) (i:Nat):List Nat :=
 (List.range ops.size).foldl (λacc j=>match ops[j]? with
  | some oj=>bif oj.after.any (λe=>Region.binds .any e&&(e.on.beq i||acc.contains e.on)) then j::acc else acc
  | none=>acc) []
def qdl (ops:Array Oper) (listed:Array Bool) (i:Nat):Bool:=match ops[i]? with
 | some oi=>q8t oi.op&&(Region.free .any ops listed i&&(List.range ops.size).all λj=>j.beq i||(listed.getD j true||(qae ops j||(waiters ops i).contains j)))
 | none=>false
def qfr (ops:Array Oper) (listed:Array Bool):Option (Nat×Bool) :=
 match (Region.ready .any ops listed).find? (qdl ops listed) with
 | some i=>some (i,true)
 | none=>match Region.ready .any ops listed with
  | [k]=>some (k,false)
  | _=>none
def q7o (ops:Array Oper):Nat→Array Bool→Option (List Nat)
 | 0,listed=>match Region.ready .any ops listed with
  | []=>some []
  | _=>none
 | f+1,listed=>match Region.ready .any ops listed with
  | []=>some []
  | _=>match qfr ops listed with
   | some (i,_)=>match q7o ops f (listed.setIfInBounds i true) with
    | some r=>some (i::r)
    | none=>none
   | none=>none
def sched (ops:Array Oper):Option (List Nat):=bif Region.noSelect ops then q7o ops ops.size (Array.replicate ops.size false) else none
def q6d (o:Oper):Bool:=match o.op with
 | .buildSlice _ _ _=>true
 | .call { callee:=.builtin .append,args,.. }=>match args.toList with
  | [.tmp _,_]=>true
  | _=>false
 | _=>false
def q7z (o:Oper):Option Nat:=match o.op with
 | .call { callee:=.builtin .append,args,.. }=>match args.toList with
  | [.tmp t,_]=>some t
  | _=>none
 | _=>none
def sameDst:Option Nat→Option Nat→Bool
 | some a,some b=>a.beq b
 | _,_=>false
def q5x (ops:Array Oper) (j:Nat):Option Nat:=match ops[j]? with
 | some o=>o.dst
 | none=>none
def qe2 (ops:Array Oper) (k:Nat):Bool:=(List.range ops.size).all λj=>j.beq k||!sameDst (q5x ops j) (q5x ops k)
def q29 (ops:Array Oper):Nat→Nat→Bool
 | 0,_=>false
 | f+1,k=>match ops[k]? with
  | some o=>q6d o&&(qe2 ops k&&(match q7z o with
   | some t=>o.after.any λe=>Region.binds .any e&&(sameDst (q5x ops e.on) (some t)&&q29 ops f e.on)
   | none=>true))
  | none=>false
def growN (ops:Array Oper) (j:Nat):Bool:=qae ops j||q29 ops ops.size j
def canTakeN (ops:Array Oper) (listed:Array Bool) (i:Nat):Bool:=match ops[i]? with
 | some oi=>q8t oi.op&&(Region.free .any ops listed i&&(List.range ops.size).all λj=>j.beq i||(listed.getD j true||(growN ops j||(waiters ops i).contains j)))
 | none=>false
def canTakeP (P:Program) (ops:Array Oper) (listed:Array Bool) (i:Nat):Bool:=match ops[i]? with
 | some oi=>q6w P oi.op&&Region.free .any ops listed i
 | none=>false
def vany (P:Program) (V:Oper→St→(St→Prop)→Prop) (ops:List Oper):Nat→Array Bool→St→(St→Prop)→Prop
 | 0,listed,st,K=>match Region.ready .any ops.toArray listed with
  | []=>K st
  | _=>False
 | f+1,listed,st,K=>match Region.ready .any ops.toArray listed with
  | []=>K st
  | rs=>match rs.find? (qdl ops.toArray listed) with
   | some i=>match ops.toArray[i]? with
    | some o=>vgo V o st (q1p ops st o) λst'=>vany P V ops f (listed.setIfInBounds i true) st' K
    | none=>False
   | none=>match rs.find? (canTakeP P ops.toArray listed) with
    | some i=>match ops.toArray[i]? with
     | some o=>vgo V o st (q1p ops st o) λst'=>vany P V ops f (listed.setIfInBounds i true) st' K
     | none=>False
    | none=>allP rs λi=>match ops.toArray[i]? with
     | some o=>vgo V o st (q1p ops st o) λst'=>vany P V ops f (listed.setIfInBounds i true) st' K
     | none=>False
def vanyN (P:Program) (V:Oper→St→(St→Prop)→Prop) (ops:List Oper):Nat→Array Bool→St→(St→Prop)→Prop
 | 0,listed,st,K=>vany P V ops 0 listed st K
 | f+1,listed,st,K=>match (Region.ready .any ops.toArray listed).find? (canTakeN ops.toArray listed) with
  | some i=>match ops.toArray[i]? with
   | some o=>vgo V o st (q1p ops st o) λst'=>vanyN P V ops f (listed.setIfInBounds i true) st' K
   | none=>False
  | none=>vany P V ops (f+1) listed st K
def pick (ops:List Oper):List Nat→List Oper
 | []=>[]
 | i::r=>match ops[i]? with
  | some o=>o::pick ops r
  | none=>pick ops r
def q5h (o:Oper):Bool:=match o.op with
 | .defer _=>false
 | _=>true
def qep (ops:List Oper):Bool:=ops.all q5h
def qbx (P:Program) (cons:List Con) (H:Inl) (KP:Cell→St→Prop) (ops:List Oper) (draw:Bool) (st:St) (K:St→Prop):Prop :=
 bif draw then
  bif Region.lexB .any ops.toArray&&(q1n cons ops).beq ops.length then vops (vopQ P cons) ops ops st K
  else bif Region.lexTailB .any ops.toArray (q1n cons ops) then
   vops (vopQ P cons) ops (ops.take (q1n cons ops)) st λst'=>vops (vop P cons) ops (ops.drop (q1n cons ops)) st' K
  else bif q9s .any ops.toArray (q1n cons ops) then
   vops (vopQ P cons) ops (ops.take (q1n cons ops)) st λst'=>vops (vop P cons) ops ((ops.drop (q1n cons ops)).take 1) st' λst'' =>
    vops (vopQ P []) ops (ops.drop (q1n cons ops+1)) st'' K
  else match sched ops.toArray with
   | some ord=>vops (vop P cons) ops (pick ops ord) st K
   | none=>bif Region.noSelect ops.toArray&&Nat.ble ops.length 30 then vanyN P (vop P cons) ops ops.length (Array.replicate ops.length false) st K else False
 else vops (vopY P cons H KP) ops ops st K
def qaf (cons:List Con):Op→Bool
 | .call { callee:=.value x,.. }=>match x with
  | .func f=>(q8q f cons).isSome
  | _=>false
 | _=>true
def hasInl (cons:List Con) (ops:List Oper):Bool:=!ops.all λo=>qaf cons o.op
def growI (cons:List Con) (ops:Array Oper) (j:Nat):Bool:=match ops[j]? with
 | some o=>q75 o.op&&qaf cons o.op
 | none=>true
def qeu (cons:List Con) (ops:Array Oper) (listed:Array Bool) (i:Nat):Bool:=match ops[i]? with
 | some oi=>q8t oi.op&&(Region.free .any ops listed i&&(List.range ops.size).all λj=>j.beq i||(listed.getD j true||(growI cons ops j||(waiters ops i).contains j)))
 | none=>false
def qa4 (cons:List Con) (V:Oper→St→(St→Prop)→Prop) (ops:List Oper):Nat→Array Bool→St→(St→Prop)→Prop
 | 0,listed,st,K=>match Region.ready .any ops.toArray listed with
  | []=>K st
  | _=>False
 | f+1,listed,st,K=>match Region.ready .any ops.toArray listed with
  | []=>K st
  | rs=>match rs.find? (qeu cons ops.toArray listed) with
   | some i=>match ops.toArray[i]? with
    | some o=>vgo V o st (q1p ops st o) λst'=>qa4 cons V ops f (listed.setIfInBounds i true) st' K
    | none=>False
   | none=>allP rs λi=>match ops.toArray[i]? with
    | some o=>vgo V o st (q1p ops st o) λst'=>qa4 cons V ops f (listed.setIfInBounds i true) st' K
    | none=>False
def qb9 (P:Program) (cons:List Con) (H:Inl) (KP:Cell→St→Prop) (ops:List Oper) (draw:Bool) (st:St) (K:St→Prop):Prop:=bif qep ops then
  (bif draw&&hasInl cons ops then (bif Region.noSelect ops.toArray&&Nat.ble ops.length 40 then qa4 cons (vopJ P cons H) ops ops.length (Array.replicate ops.length false) st K else False)
  else qbx P cons H KP ops draw st K) else False
def canTakeQ (P:Program) (ops:Array Oper) (listed:Array Bool) (i:Nat):Bool:=match ops[i]? with
 | some oi=>q9o P oi.op&&Region.free .any ops listed i
 | none=>false
def qa3 (P:Program) (cons:List Con) (V:Oper→St→(St→Prop)→Prop) (ops:List Oper):Nat→Array Bool→St→(St→Prop)→Prop
 | 0,listed,st,K=>match Region.ready .any ops.toArray listed with
  | []=>K st
  | _=>False
 | f+1,listed,st,K=>match Region.ready .any ops.toArray listed with
  | []=>K st
  | rs=>match rs.find? (qeu cons ops.toArray listed) with
   | some i=>match ops.toArray[i]? with
    | some o=>vgo V o st (q1p ops st o) λst'=>qa3 P cons V ops f (listed.setIfInBounds i true) st' K
    | none=>False
   | none=>match rs.find? (canTakeQ P ops.toArray listed) with
    | some i=>match ops.toArray[i]? with
     | some o=>vgo V o st (q1p ops st o) λst'=>qa3 P cons V ops f (listed.setIfInBounds i true) st' K
     | none=>False
    | none=>allP rs λi=>match ops.toArray[i]? with
     | some o=>vgo V o st (q1p ops st o) λst'=>qa3 P cons V ops f (listed.setIfInBounds i true) st' K
     | none=>False
def qf6 (P:Program) (cons:List Con) (H:Inl) (ops:List Oper) (draw:Bool) (st:St) (K:St→Prop):Prop:=bif qep ops&&(draw&&(Region.noSelect ops.toArray&&Nat.ble ops.length 40)) then qa3 P cons (vopJ P cons H) ops ops.length (Array.replicate ops.length false) st K else False
def qbp:List (Nat×Nat)→List (Nat×Nat)→Bool
 | [],[]=>true
 | p::r,q::l=>p.1.beq q.1&&(p.2.beq q.2&&qbp r l)
 | _,_=>false
def qd5:List (FuncId×Nat×List (Nat×Nat))→List (FuncId×Nat×List (Nat×Nat))→Bool
 | [],[]=>true
 | a::r,b::l=>a.1.beq b.1&&(a.2.1.beq b.2.1&&(qbp a.2.2 b.2.2&&qd5 r l))
 | _,_=>false
def leCell (st:St):Cell→Cell→Prop
 | _,.any=>True
 | .undef,.undef=>True
 | .nil,.nil=>True
 | .nil,.val (.sl fs) xs=>([]:List fs.Pay)=xs
 | .nil,.own r=>match st.row r with
  | none=>True
  | some _=>False
 | .own r,.own r'=>bif r.beq r' then (match st.row r with | some _=>True | none=>False) else False
 | .val k p,.val k' p'=>match k.deq k' with
  | some ⟨h⟩=>h▸p=p'
  | none=>False
 | .ptr b o,.ptr b' o'=>bif b.beq b'&&o.beq o' then True else False
 | .fn f,.fn f'=>bif f.beq f' then True else False
 | .nilm,.nilm=>True
 | .mref m,.mref m'=>bif m.beq m' then True else False
 | .nref,.nref=>True
 | .iref kk k,.iref kk' k'=>match kk.deq kk' with
  | some ⟨h⟩=>h▸k=k'
  | none=>False
 | .iter i,.iter i'=>bif i.beq i' then True else False
 | .fref,.fref=>True
 | .yld j,.yld j'=>bif j.beq j' then True else False
 | .fent kk k,.fent kk' k'=>match kk.deq kk' with
  | some ⟨h⟩=>h▸k=k'
  | none=>False
 | .clo f k ps,.clo f' k' ps'=>bif f.beq f'&&(k.beq k'&&qbp ps ps') then True else False
 | .fsl cls,.fsl cls'=>bif qd5 cls cls' then True else False
 | _,_=>False
def q90 (st:St):List Cell→List Cell→Prop
 | [],[]=>True
 | c::r,c'::r'=>leCell st c c'∧q90 st r r'
 | _,_=>False
def leAV (st:St):AV→AV→Prop
 | .c (.one c),.c (.one c')=>leCell st c c'
 | .c (.agg cs),.c (.agg cs')=>q90 st cs cs'
 | _,.c (.one .any)=>True
 | _,_=>False
def leEnv (st:St):List (Nat×AV)→Prop
 | []=>True
 | (t,v)::r=>leAV st (st.get t) v∧leEnv st r
def qh9 (st:St):List (Nat×List Cell)→Prop
 | []=>True
 | (b,cs)::r=>(match st.box b with | some bs=>q90 st bs cs | none=>False)∧qh9 st r
def leRow (st:St) (r:Nat) (y:Row):Prop :=
 match st.row r with
 | some x=>match x.fs.deq y.fs with
  | some ⟨h⟩=>bif x.e.beq y.e then q3a h x.xs=y.xs else False
  | none=>False
 | none=>y.xs=[]
def leRows (st:St):List (Nat×Row)→Prop
 | []=>True
 | (r,y)::l=>leRow st r y∧leRows st l
def castNest {a b c d e f:CK} (h:a=d) (h':b=e) (h'':c=f) (xs:List (a.Pay×List (b.Pay×c.Pay))):List (d.Pay×List (e.Pay×f.Pay)):=h''▸h'▸h▸xs
def leMap (st:St) (m:Nat) (y:MRow):Prop :=
 match st.map m with
 | some x=>match x.kk.deq y.kk,x.vk.deq y.vk with
  | some ⟨h⟩,some ⟨h'⟩=>bif x.t.beq y.t then qb7 h h' x.xs=y.xs else False
  | _,_=>False
 | none=>False
def leMaps (st:St):List (Nat×MRow)→Prop
 | []=>True
 | (m,y)::l=>leMap st m y∧leMaps st l
def leSav (st:St):List (Nat×AV)→Prop
 | []=>True
 | (t,v)::l=>leAV st (look (.c (.one .any)) t st.sav) v∧leSav st l
def leNest (st:St):Option NRow→Prop
 | none=>True
 | some y=>match st.nest with
  | some x=>match x.kk.deq y.kk,x.ik.deq y.ik,x.iv.deq y.iv with
   | some ⟨h⟩,some ⟨h'⟩,some ⟨h''⟩=>bif x.t.beq y.t&&x.it.beq y.it then castNest h h' h'' x.xs=y.xs else False
   | _,_,_=>False
  | none=>False
def leSrc:Src→Src→Prop
 | .map m,.map m'=>bif m.beq m' then True else False
 | .inner kk k,.inner kk' k'=>match kk.deq kk' with
  | some ⟨h⟩=>h▸k=k'
  | none=>False
 | .none,.none=>True
 | _,_=>False
def leIter (st:St) (i:Nat) (y:ItP):Prop :=
 match st.iter i with
 | some x=>match x.kk.deq y.kk,x.vk.deq y.vk with
  | some ⟨h⟩,some ⟨h'⟩=>leSrc x.src y.src∧qb7 h h' x.left=y.left∧(match y.cur with
   | none=>True
   | some e'=>match x.cur with
    | some e=>qb7 h h' [e]=[e']
    | none=>False)
  | _,_=>False
 | none=>False
def qh5 (st:St):List (Nat×ItP)→Prop
 | []=>True
 | (i,y)::l=>leIter st i y∧qh5 st l
def castFam {a c:CK} {b d:Kds} (h:a=c) (h':b=d) (xs:List (a.Pay×List b.Pay)):List (c.Pay×List d.Pay):=h'▸h▸xs
def leFam (st:St):Option FRow→Prop
 | none=>True
 | some y=>match st.fam with
  | some x=>match x.kk.deq y.kk,x.fs.deq y.fs with
   | some ⟨h⟩,some ⟨h'⟩=>bif x.t.beq y.t&&(x.e.beq y.e&&(x.pend.isNone&&(y.pend.isNone&&(x.mark.isNone&&y.mark.isNone)))) then castFam h h' x.xs=y.xs else False
   | _,_=>False
  | none=>False
def eqJmp:Option Jmp→Option Jmp→Bool
 | none,none=>true
 | some .ret,some .ret=>true
 | some (.exit a),some (.exit b)=>a.beq b
 | _,_=>false
def sameNs:List Nat→List Nat→Bool
 | [],[]=>true
 | a::l,b::r=>a.beq b&&sameNs l r
 | _,_=>false
def qdn (st:St) (env:List (Nat×AV)):List (Nat×AV)→Prop
 | []=>True
 | (t,v)::r=>leAV st (look (.c (.one .any)) t env) v∧qdn st env r
def leLps (st:St):List Lp→List Lp→Prop
 | [],[]=>True
 | L::l,L'::l'=>(bif L.j.beq L'.j&&(L.n.beq L'.n&&(sameNs L.ps L'.ps&&((L.busy==L'.busy)&&eqJmp L.jump L'.jump))) then True else False)∧qdn st L.env L'.env∧leLps st l l'
 | _,_=>False
def St.le (st st':St):Prop:=leEnv st st'.env∧qh9 st st'.boxes∧leRows st st'.rows∧(bif st.n.beq st'.n then True else False)∧leMaps st st'.maps∧leSav st st'.sav∧leNest st st'.nest∧qh5 st st'.iters∧leFam st st'.fam∧leLps st st.lps st'.lps
structure Ann where
 ι:Type
 at_:St→ι→St
 inv:St→ι→Prop
 mu:St→ι→Nat
 live:List Nat:=[]
def St.head (st:St) (live:List Nat) (over:List (Nat×AV)) (rows:List (Nat×Row)):St:={ st with env:=over++live.map (λt=>(t,st.get t)),rows:=rows }
def annR (l:Nat) (ι:Type) (live:List Nat) (over:ι→List (Nat×AV)) (rows:ι→List (Nat×Row)) (inv:ι→Prop) (mu:ι→Nat):Nat×Ann:=(l,{ ι:=ι,at_:=λst p=>st.head live (over p) (rows p),inv:=λ_ p=>inv p,mu:=λ_ p=>mu p })
def ann (l:Nat) (ι:Type) (live:List Nat) (over:ι→List (Nat×AV)) (inv:ι→Prop) (mu:ι→Nat):Nat×Ann:=annR l ι live over (λ_=>[]) inv mu
def ownAV (r:Nat):AV:=.c (.one (.own r))
def Post.block (Q:Post) (id:Nat):Post:={ normal:=Q.normal,exit:=λi st=>bif i.beq id then Q.normal st else Q.exit i st,ret:=Q.ret,panic:=Q.panic }
def Post.then (Q:Post) (K:St→Prop):Post:={ Q with normal:=K }
def know (st:St) (c:Operand) (b:Bool):St :=
 match c with
 | .tmp t=>st.set t (bool b)
 | _=>st
def annOf (l:Nat):List (Nat×Ann)→Option Ann
 | []=>none
 | (k,a)::r=>bif k.beq l then some a else annOf l r
def simCall (c:Con) (xs:List AV) (o:Oper) (st:St) (args:Array Operand):Option St :=
 match q17 c.args (evs (st.q09 (q11 xs)) args.toList),c.fn with
 | some p,some F=>bif c.lend&&c.res.all CK.q8w then some (st.put o.dst (q1c c.res (F p))) else some ((st.q09 (q11 xs)).put o.dst (q1c c.res (F p)))
 | _,_=>none
def simOp (P:Program) (cons:List Con) (o:Oper) (st:St):Option St :=
 match o.guard with
 | some _=>none
 | none=>match o.op with
 | .alloc e=>match o.dst,zeroCells P e with
  | some d,some cs=>some (st.q8g d (st.off+d) cs)
  | _,_=>none
 | .box _ x=>match o.dst,q4g (st.ev x) with
  | some d,some cs=>some (st.q8g d (st.off+d) cs)
  | _,_=>none
 | .call { callee:=.value (.func f),args,argTypes }=>match q8q f cons with
  | some c=>simCall c (evs st args.toList) o st args
  | none=>none
 | .call { callee:=.builtin .append,args,argTypes }=>match args.toList,argTypes.toList,o.dst with
  | [s,x],[t,t'],some d=>match P.underlying t,srcOf st 0 (st.ev x) with
   | some (.slice e),some z=>match st.ev s with
    | .c (.one (.own r))=>match st.row r with
     | some y=>match z.fs.deq y.fs with
      | some ⟨h⟩=>some ((st.setRow r ⟨e,y.fs,y.xs++q3a h z.xs⟩).set d (.c (.one (.own r))))
      | none=>none
     | none=>none
    | .c (.one .nil)=>some ((st.setRow (st.off+d) ⟨e,z.fs,z.xs⟩).set d (.c (.one (.own (st.off+d)))))
    | _=>none
   | _,_=>none
  | _,_,_=>none
 | .buildSlice t len parts=>match P.underlying t,o.dst with
  | some (.slice e),some d=>match q6h P e,q8r P 20 e with
   | some (size,_),some fs=>match q4j (st.q09 (q11 (q4a st parts.toList))) ((List.range len).map λi=>(i*size,size)) (List.replicate (len*size) .any) parts.toList with
    | some l=>match qbk fs len l with
     | some xs=>some (((st.q09 (q11 (q4a st parts.toList))).setRow (st.off+d) ⟨e,fs,xs⟩).set d (.c (.one (.own (st.off+d)))))
     | none=>none
    | none=>none
   | _,_=>none
  | _,_=>none
 | .store t x y=>match st.ev x,q4g (st.ev y) with
  | .c (.one (.ptr b off)),some cs=>match st.box b with
   | some bs=>match setCells bs off cs with
    | some bs'=>some ((st.q74 b bs').put o.dst (.c (.one .undef)))
    | none=>none
   | none=>none
  | _,_=>none
 | op=>match rop P st op with
  | .ok _ v=>some (st.put o.dst v)
  | .no=>none
def simAny (P:Program) (cons:List Con) (ops:List Oper):Nat→Array Bool→St→Option St
 | 0,listed,st=>match Region.ready .any ops.toArray listed with
  | []=>some st
  | _=>none
 | f+1,listed,st=>match Region.ready .any ops.toArray listed with
  | []=>some st
  | i::_=>match ops.toArray[i]? with
   | some o=>match simOp P cons o st with
    | some st'=>simAny P cons ops f (listed.setIfInBounds i true) st'
    | none=>none
   | none=>none
def St.keepJ (st:St) (live:List Nat):St:={ st with env:=live.map (λt=>(t,st.get t)),boxes:=q8e [] st.boxes }
def qix:Code→Option Nat
 | .region id _ _=>some id
 | .seq a _=>qix a
 | .block _ c=>qix c
 | _=>none
def qai (id:Nat):Nat×Ann:=(4000000+id,{ ι:=Unit,at_:=λst _=>st,inv:=λ_ _=>True,mu:=λ_ _=>0 })
def cutOf (anns:List (Nat×Ann)) (c:Code):Option Ann:=match qix c with
 | some id=>annOf (2000000+id) anns
 | none=>none
def qgk (c:Cell) (K:Cell→Prop):Prop:=match c with
 | .any=>K (.any)
 | .undef=>K (.undef)
 | .nil=>K (.nil)
 | .val k p=>K (.val k p)
 | .ptr b off=>K (.ptr b off)
 | .ep fs p f=>K (.ep fs p f)
 | .own r=>K (.own r)
 | .rp r sz i f=>K (.rp r sz i f)
 | .sfx r sz i=>K (.sfx r sz i)
 | .fn f=>K (.fn f)
 | .clo f k ps=>K (.clo f k ps)
 | .fsl cls=>K (.fsl cls)
 | .fel cls n=>K (.fel cls n)
 | .nilm=>K (.nilm)
 | .mref m=>K (.mref m)
 | .dyn t ks p=>K (.dyn t ks p)
 | .nref=>K (.nref)
 | .iref kk k=>K (.iref kk k)
 | .iter i=>K (.iter i)
 | .kseq f s=>K (.kseq f s)
 | .fref=>K (.fref)
 | .fent kk k=>K (.fent kk k)
 | .fp kk k sz i f=>K (.fp kk k sz i f)
 | .fnew=>K (.fnew)
 | .yld j=>K (.yld j)
 | .fstamp=>K (.fstamp)
theorem qg3 (c:Cell) (K:Cell→Prop):qgk c K=K c:=by cases c <;> rfl
def q8k:List Cell→(List Cell→Prop)→Prop
 | [],K=>K []
 | c::r,K=>qgk c λc'=>q8k r λr'=>K (c'::r')
theorem qaq:∀ (l:List Cell) (K:List Cell→Prop),q8k l K=K l
 | [],_=>rfl
 | c::r,K=>by rw [q8k,qg3,qaq r]
def forceAV (v:AV) (K:AV→Prop):Prop:=match v with
 | .c (.one c)=>qgk c λc'=>K (.c (.one c'))
 | .c (.agg cs)=>q8k cs λcs'=>K (.c (.agg cs'))
 | .tup xs=>K (.tup xs)
theorem forceAV_eq (v:AV) (K:AV→Prop):forceAV v K=K v:=by
 rcases v with (c | cs) | xs
 ·exact qg3 c (λc'=>K (.c (.one c')))
 ·exact qaq cs (λcs'=>K (.c (.agg cs')))
 ·rfl
def q9j:List (Nat×AV)→(List (Nat×AV)→Prop)→Prop
 | [],K=>K []
 | (t,v)::r,K=>forceAV v λv'=>q9j r λr'=>K ((t,v')::r')
theorem qct:∀ (l:List (Nat×AV)) (K:List (Nat×AV)→Prop),q9j l K=K l
 | [],_=>rfl
 | (t,v)::r,K=>by rw [q9j,forceAV_eq,qct r]
def qb1:List (Nat×List Cell)→(List (Nat×List Cell)→Prop)→Prop
 | [],K=>K []
 | (t,cs)::r,K=>q8k cs λcs'=>qb1 r λr'=>K ((t,cs')::r')
theorem qfk:∀ (l:List (Nat×List Cell)) (K:List (Nat×List Cell)→Prop),qb1 l K=K l
 | [],_=>rfl
 | (t,cs)::r,K=>by rw [qb1,qaq,qfk r]
def forceN (n:Nat) (K:Nat→Prop):Prop:=match n with
 | 0=>K 0
 | k+1=>K (k+1)
theorem forceN_eq (n:Nat) (K:Nat→Prop):forceN n K=K n:=by cases n <;> rfl
def qew:List Lp→(List Lp→Prop)→Prop
 | [],K=>K []
 | ⟨j,n,env,ps,busy,jump⟩::r,K=>forceN j λj'=>q9j env λenv'=>qew r λr'=>K (⟨j',n,env',ps,busy,jump⟩::r')
theorem qhk:∀ (l:List Lp) (K:List Lp→Prop),qew l K=K l
 | [],_=>rfl
 | ⟨j,n,env,ps,busy,jump⟩::r,K=>by rw [qew,forceN_eq,qct,qhk r]
def St.force (st:St) (K:St→Prop):Prop:=match st with
 | ⟨n,env,boxes,rows,sav,maps,off,nest,iters,fam,lps⟩=>forceN n λn'=>forceN off λoff'=>q9j env λenv'=>qb1 boxes λboxes'=>q9j sav λsav'=>qew lps λlps'=>K ⟨n',env',boxes',rows,sav',maps,off',nest,iters,fam,lps'⟩
theorem St.force_eq (st:St) (K:St→Prop):st.force K=K st:=by
 obtain ⟨n,env,boxes,rows,sav,maps,off,nest,iters,fam,lps⟩:=st;unfold St.force;simp only [forceN_eq,qct,qfk,qhk]
def vc (P:Program) (cons:List Con) (anns:List (Nat×Ann)) (HH:Inl→Inl) (B:Inl):Code→Nat→St→Post→Prop
 | .skip,_,st,Q=>Q.normal st
 | .region id ops draw,_,st,Q=>match annOf (1000000+id) anns with
  | none=>match annOf (4000000+id) anns with
   | none=>qb9 P cons (HH B) Q.panic ops.toList draw st Q.normal
   | some _=>qf6 P cons (HH B) ops.toList draw st Q.normal
  | some A=>match simAny P cons ops.toList ops.size (Array.replicate ops.size false) st with
   | some st1=>qb9 P cons (HH B) Q.panic ops.toList draw st (λst2=>st2.le (st1.keepJ A.live))∧Q.normal (st1.keepJ A.live)
   | none=>False
 | .seq a b,l,st,Q=>match cutOf anns b with
  | none=>vc P cons anns HH B a l st (Q.then λst'=>vc P cons anns HH B b l st' Q)
  | some A=>vc P cons anns HH B a l st (Q.then λst'=>∃ p,A.inv st p∧(st'.q09 A.live).le (A.at_ st p))∧∀ p,A.inv st p→(A.at_ st p).force λst2=>vc P cons anns HH B b l st2 Q
 | .cond c x y,l,st,Q=>match st.ev c with
  | .c (.one (.val .bool b))=>bif b then vc P cons anns HH B x l (know st c true) Q else vc P cons anns HH B y l (know st c false) Q
  | _=>False
 | .block id c,_,st,Q=>vc P cons anns HH B c id st (Q.block id)
 | .loop c,l,st,Q=>match annOf l anns with
  | some A=>(∃ p,A.inv st p∧st.le (A.at_ st p)) ∧
    ∀ p,A.inv st p→(A.at_ st p).force λst2=>vc P cons anns HH B c l st2 (Q.then λst'=>∃ p',A.inv st p'∧A.mu st p'<A.mu st p∧st'.le (A.at_ st p'))
  | none=>False
 | .exit id,_,st,Q=>Q.exit id st
 | .ret,_,st,Q=>Q.ret st
 | .rangeFunc g ps x y,l,st,Q=>match st.ev g with
  | .c (.one (.clo f k caps))=>match q55 st.off st.lps with
   | some _=>False
   | none=>bif Nat.blt f 1000000000 then HH (yieldOf st.off (λst1 Q1=>vc P cons anns HH B x l st1 { normal:=λst2=>q9l st.off st2 (λst3=>vc P cons anns HH B y l st3 Q1),exit:=λ_ _=>False,ret:=λ_=>False }) B)
     f (q81 (caps.take k)++[.one (.yld st.off)]++q81 (caps.drop k)) ((st.off+1)*1000+500) (st.pushLp ps.toList) (λ_ st'=>qhc Q st.off st') (λ_ _=>False) else False
  | _=>False
 | _,_,_,_=>False
end R
end Go.Proofs.YtfecgebhoondjaaGreatDoor

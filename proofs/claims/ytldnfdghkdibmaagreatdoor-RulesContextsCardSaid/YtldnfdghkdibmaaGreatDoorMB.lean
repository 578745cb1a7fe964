/-
  Several texts in one: R7, R8, R8M, R9, R9A, R8N.
-/
import Derived.Test.YtldnfdghkdibmaaGreatDoorMA
import Derived.Test.YtldnfdghkdibmaaGreatDoorLater
import Derived.Laws.OwnMore
/-
  What is to be shown of a function's code, in plain terms: its operations, regions, branches and loops over what is known.
-/
set_option linter.unusedVariables false
namespace Go.Proofs.YtldnfdghkdibmaaGreatDoor
open Go.RowKit
namespace R

@[reducible] def Pays : List CK → Type
  | [] => Unit
  | [x] => x.Pay
  | x :: y :: r => x.Pay × Pays (y :: r)

def compsOf : (l : List CK) → Pays l → List Comp
  | [], _ => []
  | [x], p => [x.comp p]
  | x :: y :: r, p => x.comp p.1 :: compsOf (y :: r) p.2

def takeAll : (l : List CK) → List AV → Option (Pays l)
  | [], [] => some ()
  | [x], [.c y] => takeComp x y
  | x :: y :: r, .c z :: zs => match takeComp x z, takeAll (y :: r) zs with
    | some p, some q => some (p, q)
    | _, _ => none
  | _, _ => none

/-- what a function takes and gives -/
structure Con where
  f : FuncId
  args : List CK
  res : List CK
  pre : Pays args → Prop
  post : Pays args → Pays res → Prop
  fn : Option (Pays args → Pays res) := none
  /-- owned rows among the arguments stay owned (for results without slices) -/
  lend : Bool := false
/-- a function whose results are reckoned -/
def Con.of (f : FuncId) (args res : List CK) (pre : Pays args → Prop) (F : Pays args → Pays res) : Con := { f := f, args := args, res := res, pre := pre, post := fun p r => r = F p, fn := some F }
def Kd.flat : Kd → Bool
  | .sl _ => false
  | _ => true
def CK.flat : CK → Bool
  | .one k => k.flat
  | .agg _ => false
def Kds.flat : Kds → Bool
  | .one k => k.flat
  | .cons k ks => k.flat && ks.flat
def CK.flatA : CK → Bool
  | .one k => k.flat
  | .agg ks => ks.flat
/-- the same, its owned rows only lent -/
def Con.lent (c : Con) : Con := { c with lend := true }
def resAV (l : List CK) (r : Pays l) : AV :=
  match compsOf l r with
  | [x] => .c x
  | xs => .tup xs
def conOf (f : FuncId) : List Con → Option Con
  | [] => none
  | c :: r => bif c.f.beq f then some c else conOf f r

def Cell.forget (b : Nat) : Cell → Cell
  | .ptr b' off => bif b'.beq b then .any else .ptr b' off
  | .clo f k ps => bif ps.any (fun p => p.1.beq b) then .any else .clo f k ps
  | c => c
def Comp.forget (b : Nat) : Comp → Comp
  | .one c => .one (c.forget b)
  | .agg cs => .agg (cs.map (Cell.forget b))
def AV.forget (b : Nat) : AV → AV
  | .c x => .c (x.forget b)
  | .tup xs => .tup (xs.map (Comp.forget b))
def dropBox (b : Nat) : List (Nat × List Cell) → List (Nat × List Cell)
  | [] => []
  | (b', cs) :: r => bif b'.beq b then dropBox b r else (b', cs.map (Cell.forget b)) :: dropBox b r
/-- a new variable, number i, in slot d -/
def St.newBox (st : St) (d i : Nat) (cs : List Cell) : St :=
  { st with env := (d, .c (.one (.ptr i 0))) :: st.env.map (fun (t, v) => (t, v.forget i)), boxes := (i, cs.map (Cell.forget i)) :: dropBox i st.boxes, sav := st.sav.map (fun (t, v) => (t, v.forget i)) }
def St.setBox (st : St) (b : Nat) (cs : List Cell) : St := { st with boxes := (b, cs) :: st.boxes }
def Cell.dropRow (r : Nat) : Cell → Cell
  | .own r' => bif r'.beq r then .any else .own r'
  | .rp r' sz i f => bif r'.beq r then .any else .rp r' sz i f
  | c => c
/-- what is read of row r from now on is read as data -/
def Cell.thaw (r : Nat) (x : Row) : Cell → Cell
  | .own r' => bif r'.beq r then .val (.sl x.fs) x.xs else .own r'
  | .rp r' sz i f => bif r'.beq r then .any else .rp r' sz i f
  | c => c
def Comp.mapC (g : Cell → Cell) : Comp → Comp
  | .one c => .one (g c)
  | .agg cs => .agg (cs.map g)
def AV.mapC (g : Cell → Cell) : AV → AV
  | .c x => .c (x.mapC g)
  | .tup xs => .tup (xs.map (Comp.mapC g))
def dropKey {α : Type} (r : Nat) : List (Nat × α) → List (Nat × α)
  | [] => []
  | (k, v) :: l => bif k.beq r then dropKey r l else (k, v) :: dropKey r l
def St.mapC (st : St) (g : Cell → Cell) : St := { st with env := st.env.map (fun (t, v) => (t, v.mapC g)), boxes := st.boxes.map (fun (b, cs) => (b, cs.map g)), sav := st.sav.map (fun (t, v) => (t, v.mapC g)) }
def Cell.dropMap (m : Nat) : Cell → Cell
  | .mref m' => bif m'.beq m then .any else .mref m'
  | .kseq f (.map m') => bif m'.beq m then .any else .kseq f (.map m')
  | c => c
/-- what the map of maps holds, no longer known -/
def Cell.dropInner : Cell → Cell
  | .iref _ _ => .any
  | .kseq _ (.inner _ _) => .any
  | c => c
def Cell.dropNest : Cell → Cell
  | .nref => .any
  | c => c.dropInner
def Cell.dropIter (i : Nat) : Cell → Cell
  | .iter j => bif j.beq i then .any else .iter j
  | c => c
/-- a new map, number m -/
def St.newMap (st : St) (m : Nat) (y : MRow) : St := { st.mapC (Cell.dropMap m) with maps := (m, y) :: dropKey m st.maps, iters := [] }
/-- a map anew -/
def St.setMap (st : St) (m : Nat) (y : MRow) : St := { st with maps := (m, y) :: dropKey m st.maps, iters := [] }
/-- a new map of maps; a map put into it; a map in it anew -/
def St.newNest (st : St) (y : NRow) : St := { st.mapC Cell.dropNest with nest := some y, iters := [] }
def St.putNest (st : St) (m : Nat) (y : NRow) : St := { st.mapC (fun c => (c.dropMap m).dropInner) with nest := some y, maps := dropKey m st.maps, iters := [] }
def St.setNest (st : St) (y : NRow) : St := { st with nest := some y }
/-- a new iterator; an iterator behind a step -/
def St.newIter (st : St) (i : Nat) (z : ItP) : St := { st.mapC (Cell.dropIter i) with iters := (i, z) :: dropKey i st.iters }
def St.setIter (st : St) (i : Nat) (z : ItP) : St := { st with iters := (i, z) :: dropKey i st.iters }
/-- what an iterator over this goes through -/
def itOf (st : St) : Cell → Option ItP
  | .mref m => match st.map m with
    | some y => some ⟨.map m, y.kk, y.vk, y.xs, none⟩
    | none => none
  | .iref kk k => match st.nest with
    | some y => match kk.deq y.kk with
      | some ⟨h⟩ => some ⟨.inner y.kk (h ▸ k), y.ik, y.iv, (y.at_ (h ▸ k)).getD [], none⟩
      | none => none
    | none => none
  | .nilm => some ⟨.none, .one .bool, .one .bool, [], none⟩
  | _ => none
/-- no iterator goes through the map at this key, nor through one of the call's other maps -/
def itersOff (kk : CK) (k : kk.Pay) : List (Nat × ItP) → Prop
  | [] => True
  | (_, z) :: r => (match z.src with
    | .inner kk' k' => match kk'.deq kk with
      | some ⟨h⟩ => ¬ (h ▸ k') = k
      | none => False
    | .none => True
    | .map _ => False) ∧ itersOff kk k r
def castMap {a b c d : CK} (h : a = c) (h' : b = d) (xs : List (a.Pay × b.Pay)) : List (c.Pay × d.Pay) := h' ▸ h ▸ xs
/-- a new row, or a row anew -/
def St.setRow (st : St) (r : Nat) (x : Row) : St := { st.mapC (Cell.dropRow r) with rows := (r, x) :: dropKey r st.rows }
def St.freeze (st : St) (r : Nat) : St :=
  match st.row r with
  | some x => { st.mapC (Cell.thaw r x) with rows := dropKey r st.rows }
  | none => st
def ownsC : List Cell → List Nat
  | [] => []
  | .own r :: l => r :: ownsC l
  | _ :: l => ownsC l
def ownsA : List AV → List Nat
  | [] => []
  | .c (.one c) :: l => ownsC [c] ++ ownsA l
  | .c (.agg cs) :: l => ownsC cs ++ ownsA l
  | _ :: l => ownsA l
def St.freezeAll (st : St) : List Nat → St
  | [] => st
  | r :: l => (st.freeze r).freezeAll l
def keysOf {α : Type} : List (Nat × α) → List Nat
  | [] => []
  | (k, _) :: l => k :: keysOf l
/-- an element's cells and bytes -/
def rowInfo (P : Program) (e : TypeId) : Option (Nat × Nat) :=
  match P.info? e with
  | some i => match i.zero with
    | some z => bif z.cells.size.beq i.size && Nat.blt 0 i.size && Nat.blt 0 i.bytes && z.cells.toList.all (·.oneCell') then some (i.size, i.bytes) else none
    | none => none
  | none => none
def Kds.app : Kds → Kds → Kds
  | .one k, l => .cons k l
  | .cons k ks, l => .cons k (ks.app l)
mutual
def kdOf (P : Program) : Nat → TypeId → Option Kd
  | 0, _ => none
  | n + 1, t => match P.underlying t with
    | some (.int k) => some (.int k)
    | some .bool => some .bool
    | some .string => some .str
    | some (.slice e) => (kdsOf P n e).map .sl
    | _ => none
def kdsOf (P : Program) : Nat → TypeId → Option Kds
  | 0, _ => none
  | n + 1, t => match P.underlying t with
    | some (.struct fs) => kdsAll P n (fs.toList.map (·.type))
    | some (.array len e) => kdsAll P n (List.replicate len e)
    | _ => (kdOf P n t).map .one
def kdsAll (P : Program) : Nat → List TypeId → Option Kds
  | 0, _ => none
  | n + 1, [] => none
  | n + 1, [t] => kdsOf P n t
  | n + 1, t :: l => match kdsOf P n t, kdsAll P n l with
    | some k, some ks => some (k.app ks)
    | _, _ => none
end
/-- the kind of a type's values -/
def ckOf (P : Program) (t : TypeId) : Option CK :=
  match P.underlying t with
  | some (.struct _) => (kdsOf P 20 t).map .agg
  | some (.array _ _) => (kdsOf P 20 t).map .agg
  | _ => (kdOf P 20 t).map .one
/-- a row's elements out of its cells -/
def rowsFrom (fs : Kds) : Nat → List Cell → Option (List fs.Pay)
  | 0, [] => some []
  | 0, _ :: _ => none
  | n + 1, l => match takeCells fs (l.take fs.size), rowsFrom fs n (l.drop fs.size) with
    | some x, some xs => some (x :: xs)
    | _, _ => none
/-- what is appended -/
def srcOf (st : St) (e : TypeId) : AV → Option Row
  | .c (.one (.own r)) => st.row r
  | .c (.one (.val (.sl fs) xs)) => some ⟨e, fs, xs⟩
  | _ => none
def isOwn (r : Nat) : AV → Bool
  | .c (.one (.own r')) => r'.beq r
  | _ => false
def castRow {a b : Kds} (h : a = b) (xs : List a.Pay) : List b.Pay := h ▸ xs
def putOk (st : St) : Option Nat → Bool
  | some d => Nat.blt d st.n
  | none => true
def evs (st : St) : List Operand → List AV
  | [] => []
  | x :: r => st.ev x :: evs st r

/-- fields written, one after the other -/
def Kds.setFld : (fs : Kds) → fs.Pay → Nat → Cell → Option fs.Pay
  | .one k, _, 0, c => takeCell k c
  | .one _, _, _ + 1, _ => none
  | .cons k _, p, 0, c => match takeCell k c with
    | some x => some (x, p.2)
    | none => none
  | .cons _ ks, p, n + 1, c => match ks.setFld p.2 n c with
    | some y => some (p.1, y)
    | none => none
def Kds.setFlds (fs : Kds) : fs.Pay → Nat → List Cell → Option fs.Pay
  | p, _, [] => some p
  | p, f, c :: r => match fs.setFld p f c with
    | some q => fs.setFlds q (f + 1) r
    | none => none
def partsAV (st : St) : List (Nat × Operand) → List AV
  | [] => []
  | (_, x) :: r => st.ev x :: partsAV st r
/-- a row anew, its block the same -/
def St.putRow (st : St) (r : Nat) (x : Row) : St := { st with rows := (r, x) :: dropKey r st.rows }
/-- operations that ask nothing -/
def freeOp : Op → Bool
  | .move _ | .assign _ | .pick _ _ _ | .load _ _ | .nilCheck _ | .fieldAddr _ _ _ | .field _ _ _ | .convert _ _ _ | .extract _ _ | .build _ _ | .makeFunc _ _ _ | .lookup _ _ _ _ | .entry _ | .makeInterface _ _ => true
  | .unOp .not _ _ => true
  | .binOp op _ _ _ _ => match op with
    | .eql | .neq | .lss | .leq | .gtr | .geq => true
    | _ => false
  | .call { callee := .builtin .len, .. } => true
  | _ => false
def asks (op : Op) (c k : Prop) : Prop := bif freeOp op then k else c ∧ k
/-- a call, its owned rows handed on as data -/
def vcall (c : Con) (xs : List AV) (o : Oper) (st : St) (args : Array Operand) (K : St → Prop) : Prop :=
  match takeAll c.args (evs (st.freezeAll (ownsA xs)) args.toList) with
  | some p => bif putOk st o.dst then c.pre p ∧ (bif c.lend && c.res.all CK.flatA then (match c.fn with
      | some F => K (st.put o.dst (resAV c.res (F p)))
      | none => ∀ r, c.post p r → K (st.put o.dst (resAV c.res r))) else (match c.fn with
      | some F => K ((st.freezeAll (ownsA xs)).put o.dst (resAV c.res (F p)))
      | none => ∀ r, c.post p r → K ((st.freezeAll (ownsA xs)).put o.dst (resAV c.res r)))) else False
  | none => False
/-- a map's value at a key, written -/
def vput (P : Program) (st : St) (t : TypeId) (m k : AV) (v : Operand) (d : Option Nat) (K : St → Prop) : Prop :=
  match P.underlying t, m, k, (st.freezeAll (ownsA [st.ev v])).ev v with
  | some (.map kt _), .c (.one (.mref i)), .c kc, .c vc => match (st.freezeAll (ownsA [st.ev v])).map i with
    | some y => match takeComp y.kk kc, takeComp y.vk vc with
      | some kp, some vp => bif y.t.beq t && keyOk P kt y.kk && putOk st d then K (((st.freezeAll (ownsA [st.ev v])).setMap i ⟨y.t, y.kk, y.vk, Mp.put y.kk.eqB kp vp y.xs⟩).put d (.c (.one .undef))) else False
      | _, _ => False
    | none => False
  | _, _, _, _ => False
/-- a map of the call's own, put into the map of maps -/
def vputN (P : Program) (st : St) (t : TypeId) (k v : Operand) (d : Option Nat) (K : St → Prop) : Prop :=
  match P.underlying t, st.nest, st.ev k, st.ev v with
  | some (.map kt _), some y, .c kc, .c (.one (.mref m)) => match takeComp y.kk kc, st.map m with
    | some kp, some z => match z.kk.deq y.ik, z.vk.deq y.iv with
      | some ⟨h1⟩, some ⟨h2⟩ => bif y.t.beq t && (z.t.beq y.it && (keyOk P kt y.kk && putOk st d)) then
          (y.at_ kp).isSome = false ∧ K ((st.putNest m ⟨y.t, y.kk, y.it, y.ik, y.iv, y.xs ++ [(kp, castMap h1 h2 z.xs)]⟩).put d (.c (.one .undef)))
        else False
      | _, _ => False
    | _, _ => False
  | _, _, _, _ => False
/-- a value put into a map of the map of maps -/
def vputI (P : Program) (st : St) (t : TypeId) (kk : CK) (q : kk.Pay) (k v : Operand) (d : Option Nat) (K : St → Prop) : Prop :=
  match P.underlying t, st.nest, st.ev k, st.ev v with
  | some (.map kt _), some y, .c kc, .c vc => match kk.deq y.kk, takeComp y.ik kc, takeComp y.iv vc with
    | some ⟨h⟩, some kp, some vp => bif y.it.beq t && (keyOk P kt y.ik && (y.kk.plain && putOk st d)) then
        ((y.at_ (h ▸ q)).isSome = true ∧ itersOff y.kk (h ▸ q) st.iters) ∧
          K ((st.setNest ⟨y.t, y.kk, y.it, y.ik, y.iv, Mp.put y.kk.eqB (h ▸ q) (Mp.put y.ik.eqB kp vp ((y.at_ (h ▸ q)).getD [])) y.xs⟩).put d (.c (.one .undef)))
      else False
    | _, _, _ => False
  | _, _, _, _ => False
def vputX (P : Program) (st : St) (t : TypeId) (m k v : Operand) (d : Option Nat) (K : St → Prop) : Prop :=
  match st.ev m with
  | .c (.one .nref) => vputN P st t k v d K
  | .c (.one (.iref kk q)) => vputI P st t kk q k v d K
  | _ => vput P st t (st.ev m) (st.ev k) v d K
/-- an iterator's step -/
def vnext (st : St) (x : AV) (d : Option Nat) (K : St → Prop) : Prop :=
  match x with
  | .c (.one (.iter i)) => match st.iter i with
    | some z => bif putOk st d then
        (z.left = [] → K (st.put d (.tup [.one (.val .bool false)]))) ∧
        ∀ (j : Nat) e, z.left[j]? = some e → K ((st.setIter i ⟨z.src, z.kk, z.vk, z.left.eraseIdx j, some e⟩).put d (.tup [.one (.val .bool true), z.kk.comp e.1, z.vk.comp e.2]))
      else False
    | none => False
  | _ => False
/-- an operation in its place -/
def vop (P : Program) (cons : List Con) (o : Oper) (st : St) (K : St → Prop) : Prop :=
  match o.op with
  | .alloc e => match o.dst, zeroCells P e with
    | some d, some cs => bif Nat.blt d st.n then K (st.newBox d (st.off + d) cs) else False
    | _, _ => False
  | .box _ x => match o.dst, compCells (st.ev x) with
    | some d, some cs => bif Nat.blt d st.n then K (st.newBox d (st.off + d) cs) else False
    | _, _ => False
  | .makeMap t none => match P.underlying t, o.dst with
    | some (.map kt et), some d => match P.underlying et with
      | some (.map kt2 et2) => match st.nest, ckOf P kt, ckOf P kt2, ckOf P et2 with
        | none, some kk, some ik, some iv => bif Nat.blt d st.n then K ((st.newNest ⟨t, kk, et, ik, iv, []⟩).set d (.c (.one .nref))) else False
        | _, _, _, _ => False
      | _ => match ckOf P kt, ckOf P et with
        | some kk, some vk => bif Nat.blt d st.n then K ((st.newMap (st.off + d) ⟨t, kk, vk, []⟩).set d (.c (.one (.mref (st.off + d))))) else False
        | _, _ => False
    | _, _ => False
  | .mapUpdate t m k v => vputX P st t m k v o.dst K
  | .insert t m k v => vputX P st t m k v o.dst K
  | .range t x => match P.underlying t, o.dst, st.ev x with
    | some (.map _ _), some d, .c (.one c) => match itOf st c with
      | some z => bif Nat.blt d st.n then K ((st.newIter (st.off + d) z).set d (.c (.one (.iter (st.off + d))))) else False
      | none => False
    | _, _, _ => False
  | .next x false => vnext st (st.ev x) o.dst K
  | .store t x y => match st.ev x, compCells (st.ev y), sizeB P t with
    | .c (.one (.ptr b off)), some cs, some n => bif n.beq cs.length && putOk st o.dst then
        match st.box b with
        | some bs => match setCells bs off cs with
          | some bs' => K ((st.setBox b bs').put o.dst (.c (.one .undef)))
          | none => False
        | none => False
      else False
    | .c (.one (.rp r sz i f)), some _, some n => match compCells ((st.freezeAll (ownsA [st.ev y])).ev y), (st.freezeAll (ownsA [st.ev y])).row r with
      | some cs, some z => bif n.beq cs.length && putOk st o.dst && sz.beq z.fs.size then
          match z.fs.setFlds (z.xs.getD i z.fs.dflt) f cs with
          | some x' => match (st.freezeAll (ownsA [st.ev y])).ev x with
            | .c (.one (.rp r2 sz2 i2 f2)) => bif r2.beq r && sz2.beq sz && i2.beq i && f2.beq f then
                K (((st.freezeAll (ownsA [st.ev y])).putRow r ⟨z.e, z.fs, z.xs.set i x'⟩).put o.dst (.c (.one .undef)))
              else False
            | _ => False
          | none => False
        else False
      | _, _ => False
    | _, _, _ => False
  | .call { callee := .value (.func f), args, argTypes } => match conOf f cons with
    | some c => vcall c (evs st args.toList) o st args K
    | none => False
  | .call { callee := .builtin .append, args, argTypes } => match args.toList, argTypes.toList, o.dst with
    | [s, x], [t, t'], some d => match P.underlying t, srcOf st 0 (st.ev x) with
      | some (.slice e), some z => match rowInfo P e with
        | some (size, bytes) => match st.ev s with
          | .c (.one (.own r)) => match st.row r with
            | some y => match z.fs.deq y.fs with
              | some ⟨h⟩ => bif t'.beq t && y.e.beq e && y.fs.size.beq size && Nat.blt d st.n && !isOwn r (st.ev x) then
                  (y.xs.length + z.xs.length) * bytes ≤ 140737488355328 ∧ K ((st.setRow r ⟨e, y.fs, y.xs ++ castRow h z.xs⟩).set d (.c (.one (.own r))))
                else False
              | none => False
            | none => False
          | .c (.one .nil) => bif t'.beq t && z.fs.size.beq size && Nat.blt d st.n then
              z.xs.length * bytes ≤ 140737488355328 ∧ K ((st.setRow (st.off + d) ⟨e, z.fs, z.xs⟩).set d (.c (.one (.own (st.off + d)))))
            else False
          | _ => False
        | none => False
      | _, _ => False
    | _, _, _ => False
  | .buildSlice t len parts => match P.underlying t, o.dst with
    | some (.slice e), some d => match rowInfo P e, kdsOf P 20 e with
      | some (size, _), some fs => match buildParts (st.freezeAll (ownsA (partsAV st parts.toList))) ((List.range len).map fun i => (i * size, size)) (List.replicate (len * size) .any) parts.toList with
        | some l => match rowsFrom fs len l with
          | some xs => bif fs.size.beq size && Nat.blt d (st.freezeAll (ownsA (partsAV st parts.toList))).n && Nat.ble (len * size) 16777216 then K (((st.freezeAll (ownsA (partsAV st parts.toList))).setRow (st.off + d) ⟨e, fs, xs⟩).set d (.c (.one (.own (st.off + d))))) else False
          | none => False
        | none => False
      | _, _ => False
    | _, _ => False
  | .makeSlice t x y => match P.underlying t, o.dst, st.ev x, st.ev y with
    | some (.slice e), some d, .c (.one (.val (.int _) n)), .c (.one (.val (.int _) m)) => match rowInfo P e, kdsOf P 20 e, zeroCells P e with
      | some (size, bytes), some fs, some zc => match takeCells fs zc with
        | some z => bif fs.size.beq size && Nat.blt d st.n then
            (0 ≤ n ∧ n = m ∧ n * (bytes : Int) ≤ 140737488355328) ∧ K ((st.setRow (st.off + d) ⟨e, fs, List.replicate n.toNat z⟩).set d (.c (.one (.own (st.off + d)))))
          else False
        | none => False
      | _, _, _ => False
    | _, _, _, _ => False
  | op => match rop P st op with
    | .ok c v => bif putOk st o.dst then asks o.op c (K (st.put o.dst v)) else False
    | .no => False
/-- what a call does, where no contract is: the callee's code itself -/
abbrev Inl : Type := FuncId → List Comp → Nat → St → (List Comp → St → Prop) → (Cell → St → Prop) → Prop
def noInl : Inl := fun _ _ _ _ _ _ => False
def compsAV : List AV → Option (List Comp)
  | [] => some []
  | .c x :: r => (compsAV r).map (x :: ·)
  | .tup _ :: _ => none
def ptrCs (ps : List (Nat × Nat)) : List Comp := ps.map fun p => .one (.ptr p.1 p.2)
def retAV : List Comp → AV
  | [x] => .c x
  | xs => .tup xs
def vin (H : Inl) (KP : Cell → St → Prop) (f : FuncId) (ahead behind : List (Nat × Nat)) (o : Oper) (st : St) (args : List Operand) (K : St → Prop) : Prop :=
  match compsAV (evs st args) with
  | some xs => bif putOk st o.dst then H f (ptrCs ahead ++ xs ++ ptrCs behind) ((st.off + o.dst.getD f + 1) * 1000) st (fun rs st' => K (st'.put o.dst (retAV rs))) KP else False
  | none => False
/-- an operation of a region that does not draw: calls without contracts, and panics, among them -/
def vopI (P : Program) (cons : List Con) (H : Inl) (KP : Cell → St → Prop) (o : Oper) (st : St) (K : St → Prop) : Prop :=
  match o.op with
  | .call { callee := .value x, args, .. } => match st.ev x with
    | .c (.one (.fn f)) => match conOf f cons, x with
      | some _, .func _ => vop P cons o st K
      | _, _ => vin H KP f [] [] o st args.toList K
    | .c (.one (.clo f k ps)) => vin H KP f (ps.take k) (ps.drop k) o st args.toList K
    | _ => False
  | .panic x => match st.ev x with
    | .c (.one (.dyn t ks p)) => KP (.dyn t ks p) st
    | _ => False
  | _ => vop P cons o st K
/-- an operation of a region that draws: one value, whatever the order -/
def vopQ (P : Program) (cons : List Con) (o : Oper) (st : St) (K : St → Prop) : Prop :=
  match o.op with
  | .call { callee := .value (.func f), args, argTypes } => match conOf f cons with
    | some c => match takeAll c.args (evs (st.freezeAll (ownsA (evs st args.toList))) args.toList) with
      | some p => bif putOk st o.dst && c.res.all CK.flat then c.pre p ∧ (match c.fn with
          | some F => K ((st.freezeAll (ownsA (evs st args.toList))).put o.dst (resAV c.res (F p)))
          | none => (∃ r, c.post p r ∧ ∀ r', c.post p r' → r' = r) ∧ ∀ r, c.post p r → K ((st.freezeAll (ownsA (evs st args.toList))).put o.dst (resAV c.res r))) else False
      | none => False
    | none => False
  | op => match rop P st op with
    | .ok c v => bif putOk st o.dst then asks o.op c (K (st.put o.dst v)) else False
    | .no => False

/-- what an operation's guard says: run it, pass it over, or part -/
inductive Way where
  | run
  | skip
  | part (t : Nat) (b want : Bool)
  | no
def wayOf (ops : List Oper) (st : St) (o : Oper) : Way :=
  match o.guard with
  | none => .run
  | some (j, want) => match (ops[j]?).bind (·.dst) with
    | some t => match st.get t with
      | .c (.one (.val .bool b)) => .part t b want
      | .c (.one .undef) => .skip
      | _ => .no
    | none => .no
def vgo (V : Oper → St → (St → Prop) → Prop) (o : Oper) (st : St) (w : Way) (K : St → Prop) : Prop :=
  match w with
  | .run => V o st K
  | .skip => bif putOk st o.dst then K (st.put o.dst (.c (.one .undef))) else False
  | .part t b want => bif putOk st o.dst then
      bif b then (bif want then V o (st.set t (bool true)) K else K ((st.set t (bool true)).put o.dst (.c (.one .undef))))
      else (bif want then K ((st.set t (bool false)).put o.dst (.c (.one .undef))) else V o (st.set t (bool false)) K)
    else False
  | .no => False
def vops (V : Oper → St → (St → Prop) → Prop) (ops : List Oper) : List Oper → St → (St → Prop) → Prop
  | [], st, K => K st
  | o :: r, st, K => vgo V o st (wayOf ops st o) fun st' => vops V ops r st' K

def scalarCall (cons : List Con) : Op → Bool
  | .alloc _ | .box _ _ | .store _ _ _ | .buildSlice _ _ _ | .makeSlice _ _ _ | .makeMap _ _ | .mapUpdate _ _ _ _ | .insert _ _ _ _ | .range _ _ | .next _ _ => false
  | .call { callee := .value (.func f), .. } => match conOf f cons with
    | some c => c.res.all CK.flat
    | none => false
  | .call { callee := .builtin b, .. } => match b with
    | .append | .copy | .delete | .clear => false
    | _ => true
  | _ => true
def firstLoud (cons : List Con) : List Oper → Nat
  | [] => 0
  | o :: r => bif scalarCall cons o.op then firstLoud cons r + 1 else 0
/-- operations that leave the old memory as it is -/
def growOp : Op → Bool
  | .store _ _ _ | .mapUpdate _ _ _ _ | .insert _ _ _ _ | .next _ _ => false
  | .call { callee := .builtin b, .. } => match b with
    | .len => true
    | _ => false
  | _ => true
/-- operations that only read -/
def ropOp : Op → Bool
  | .alloc _ | .box _ _ | .store _ _ _ | .buildSlice _ _ _ | .makeSlice _ _ _ | .makeMap _ _ | .mapUpdate _ _ _ _ | .insert _ _ _ _ | .range _ _ | .next _ _ => false
  | .call { callee := .builtin .len, .. } => true
  | .call _ => false
  | _ => true
def growAt (ops : Array Oper) (j : Nat) : Bool := match ops[j]? with
  | some o => growOp o.op
  | none => true
/-- those that wait for number i, at last -/
def waiters (ops : Array Oper) (i : Nat) : List Nat :=
  (List.range ops.size).foldl (fun acc j => match ops[j]? with
    | some oj => bif oj.after.any (fun e => Region.binds .any e && (e.on.beq i || acc.contains e.on)) then j :: acc else acc
    | none => acc) []
def canTake (ops : Array Oper) (listed : Array Bool) (i : Nat) : Bool := match ops[i]? with
  | some oi => ropOp oi.op && (Region.free .any ops listed i && (List.range ops.size).all fun j => j.beq i || (listed.getD j true || (growAt ops j || (waiters ops i).contains j)))
  | none => false
/-- the next operation of a region that draws: one that only reads, or the only one that may come up -/
def schedStep (ops : Array Oper) (listed : Array Bool) : Option (Nat × Bool) :=
  match (Region.ready .any ops listed).find? (canTake ops listed) with
  | some i => some (i, true)
  | none => match Region.ready .any ops listed with
    | [k] => some (k, false)
    | _ => none
def schedFrom (ops : Array Oper) : Nat → Array Bool → Option (List Nat)
  | 0, listed => match Region.ready .any ops listed with
    | [] => some []
    | _ => none
  | f + 1, listed => match Region.ready .any ops listed with
    | [] => some []
    | _ => match schedStep ops listed with
      | some (i, _) => match schedFrom ops f (listed.setIfInBounds i true) with
        | some r => some (i :: r)
        | none => none
      | none => none
def sched (ops : Array Oper) : Option (List Nat) := bif Region.noSelect ops then schedFrom ops ops.size (Array.replicate ops.size false) else none
/-! the same where a slice made in the region is appended to: such an append leaves the memory from before the region as it is -/
def freshKind (o : Oper) : Bool := match o.op with
  | .buildSlice _ _ _ => true
  | .call { callee := .builtin .append, args, .. } => match args.toList with
    | [.tmp _, _] => true
    | _ => false
  | _ => false
/-- what an append appends to -/
def headTmp (o : Oper) : Option Nat := match o.op with
  | .call { callee := .builtin .append, args, .. } => match args.toList with
    | [.tmp t, _] => some t
    | _ => none
  | _ => none
def sameDst : Option Nat → Option Nat → Bool
  | some a, some b => a.beq b
  | _, _ => false
def dstAt (ops : Array Oper) (j : Nat) : Option Nat := match ops[j]? with
  | some o => o.dst
  | none => none
def otherDst (ops : Array Oper) (k : Nat) : Bool := (List.range ops.size).all fun j => j.beq k || !sameDst (dstAt ops j) (dstAt ops k)
/-- operations whose slice is made in the region -/
def freshOne (ops : Array Oper) : Nat → Nat → Bool
  | 0, _ => false
  | f + 1, k => match ops[k]? with
    | some o => freshKind o && (otherDst ops k && (match headTmp o with
      | some t => o.after.any fun e => Region.binds .any e && (sameDst (dstAt ops e.on) (some t) && freshOne ops f e.on)
      | none => true))
    | none => false
def growN (ops : Array Oper) (j : Nat) : Bool := growAt ops j || freshOne ops ops.size j
def canTakeN (ops : Array Oper) (listed : Array Bool) (i : Nat) : Bool := match ops[i]? with
  | some oi => ropOp oi.op && (Region.free .any ops listed i && (List.range ops.size).all fun j => j.beq i || (listed.getD j true || (growN ops j || (waiters ops i).contains j)))
  | none => false
def allP : List Nat → (Nat → Prop) → Prop
  | [], _ => True
  | [i], p => p i
  | i :: r, p => p i ∧ allP r p
/-- whatever the order: one that only reads is taken at once, else each that may come up -/
def vany (V : Oper → St → (St → Prop) → Prop) (ops : List Oper) : Nat → Array Bool → St → (St → Prop) → Prop
  | 0, listed, st, K => match Region.ready .any ops.toArray listed with
    | [] => K st
    | _ => False
  | f + 1, listed, st, K => match Region.ready .any ops.toArray listed with
    | [] => K st
    | rs => match rs.find? (canTake ops.toArray listed) with
      | some i => match ops.toArray[i]? with
        | some o => vgo V o st (wayOf ops st o) fun st' => vany V ops f (listed.setIfInBounds i true) st' K
        | none => False
      | none => allP rs fun i => match ops.toArray[i]? with
        | some o => vgo V o st (wayOf ops st o) fun st' => vany V ops f (listed.setIfInBounds i true) st' K
        | none => False
/-- first what only reads the memory from before the region -/
def vanyN (V : Oper → St → (St → Prop) → Prop) (ops : List Oper) : Nat → Array Bool → St → (St → Prop) → Prop
  | 0, listed, st, K => vany V ops 0 listed st K
  | f + 1, listed, st, K => match (Region.ready .any ops.toArray listed).find? (canTakeN ops.toArray listed) with
    | some i => match ops.toArray[i]? with
      | some o => vgo V o st (wayOf ops st o) fun st' => vanyN V ops f (listed.setIfInBounds i true) st' K
      | none => False
    | none => vany V ops (f + 1) listed st K
def pick (ops : List Oper) : List Nat → List Oper
  | [] => []
  | i :: r => match ops[i]? with
    | some o => o :: pick ops r
    | none => pick ops r
def vregion (P : Program) (cons : List Con) (H : Inl) (KP : Cell → St → Prop) (ops : List Oper) (draw : Bool) (st : St) (K : St → Prop) : Prop :=
  bif draw then
    bif Region.lexB .any ops.toArray && (firstLoud cons ops).beq ops.length then vops (vopQ P cons) ops ops st K
    else bif Region.lexTailB .any ops.toArray (firstLoud cons ops) then
      vops (vopQ P cons) ops (ops.take (firstLoud cons ops)) st fun st' => vops (vop P cons) ops (ops.drop (firstLoud cons ops)) st' K
    else bif lexMidB .any ops.toArray (firstLoud cons ops) then
      vops (vopQ P cons) ops (ops.take (firstLoud cons ops)) st fun st' => vops (vop P cons) ops ((ops.drop (firstLoud cons ops)).take 1) st' fun st'' =>
        vops (vopQ P []) ops (ops.drop (firstLoud cons ops + 1)) st'' K
    else match sched ops.toArray with
      | some ord => vops (vop P cons) ops (pick ops ord) st K
      | none => bif Region.noSelect ops.toArray && Nat.ble ops.length 30 then vanyN (vop P cons) ops ops.length (Array.replicate ops.length false) st K else False
  else vops (vopI P cons H KP) ops ops st K

def samePs : List (Nat × Nat) → List (Nat × Nat) → Bool
  | [], [] => true
  | p :: r, q :: l => p.1.beq q.1 && (p.2.beq q.2 && samePs r l)
  | _, _ => false
def leCell (st : St) : Cell → Cell → Prop
  | _, .any => True
  | .undef, .undef => True
  | .nil, .nil => True
  | .nil, .val (.sl fs) xs => ([] : List fs.Pay) = xs
  | .nil, .own r => match st.row r with
    | none => True
    | some _ => False
  | .own r, .own r' => bif r.beq r' then (match st.row r with | some _ => True | none => False) else False
  | .val k p, .val k' p' => match k.deq k' with
    | some ⟨h⟩ => h ▸ p = p'
    | none => False
  | .ptr b o, .ptr b' o' => bif b.beq b' && o.beq o' then True else False
  | .fn f, .fn f' => bif f.beq f' then True else False
  | .nilm, .nilm => True
  | .mref m, .mref m' => bif m.beq m' then True else False
  | .nref, .nref => True
  | .iref kk k, .iref kk' k' => match kk.deq kk' with
    | some ⟨h⟩ => h ▸ k = k'
    | none => False
  | .iter i, .iter i' => bif i.beq i' then True else False
  | .clo f k ps, .clo f' k' ps' => bif f.beq f' && (k.beq k' && samePs ps ps') then True else False
  | _, _ => False
def leCells (st : St) : List Cell → List Cell → Prop
  | [], [] => True
  | c :: r, c' :: r' => leCell st c c' ∧ leCells st r r'
  | _, _ => False
def leAV (st : St) : AV → AV → Prop
  | .c (.one c), .c (.one c') => leCell st c c'
  | .c (.agg cs), .c (.agg cs') => leCells st cs cs'
  | _, .c (.one .any) => True
  | _, _ => False
def leEnv (st : St) : List (Nat × AV) → Prop
  | [] => True
  | (t, v) :: r => leAV st (st.get t) v ∧ leEnv st r
def leBoxes (st : St) : List (Nat × List Cell) → Prop
  | [] => True
  | (b, cs) :: r => (match st.box b with | some bs => leCells st bs cs | none => False) ∧ leBoxes st r
def leRow (st : St) (r : Nat) (y : Row) : Prop :=
  match st.row r with
  | some x => match x.fs.deq y.fs with
    | some ⟨h⟩ => bif x.e.beq y.e then castRow h x.xs = y.xs else False
    | none => False
  | none => y.xs = []
def leRows (st : St) : List (Nat × Row) → Prop
  | [] => True
  | (r, y) :: l => leRow st r y ∧ leRows st l
def castNest {a b c d e f : CK} (h : a = d) (h' : b = e) (h'' : c = f) (xs : List (a.Pay × List (b.Pay × c.Pay))) : List (d.Pay × List (e.Pay × f.Pay)) := h'' ▸ h' ▸ h ▸ xs
def leMap (st : St) (m : Nat) (y : MRow) : Prop :=
  match st.map m with
  | some x => match x.kk.deq y.kk, x.vk.deq y.vk with
    | some ⟨h⟩, some ⟨h'⟩ => bif x.t.beq y.t then castMap h h' x.xs = y.xs else False
    | _, _ => False
  | none => False
def leMaps (st : St) : List (Nat × MRow) → Prop
  | [] => True
  | (m, y) :: l => leMap st m y ∧ leMaps st l
def leSav (st : St) : List (Nat × AV) → Prop
  | [] => True
  | (t, v) :: l => leAV st (look (.c (.one .any)) t st.sav) v ∧ leSav st l
def leNest (st : St) : Option NRow → Prop
  | none => True
  | some y => match st.nest with
    | some x => match x.kk.deq y.kk, x.ik.deq y.ik, x.iv.deq y.iv with
      | some ⟨h⟩, some ⟨h'⟩, some ⟨h''⟩ => bif x.t.beq y.t && x.it.beq y.it then castNest h h' h'' x.xs = y.xs else False
      | _, _, _ => False
    | none => False
def leSrc : Src → Src → Prop
  | .map m, .map m' => bif m.beq m' then True else False
  | .inner kk k, .inner kk' k' => match kk.deq kk' with
    | some ⟨h⟩ => h ▸ k = k'
    | none => False
  | .none, .none => True
  | _, _ => False
def leIter (st : St) (i : Nat) (y : ItP) : Prop :=
  match st.iter i with
  | some x => match x.kk.deq y.kk, x.vk.deq y.vk with
    | some ⟨h⟩, some ⟨h'⟩ => leSrc x.src y.src ∧ castMap h h' x.left = y.left ∧ (match y.cur with
      | none => True
      | some e' => match x.cur with
        | some e => castMap h h' [e] = [e']
        | none => False)
    | _, _ => False
  | none => False
def leIters (st : St) : List (Nat × ItP) → Prop
  | [] => True
  | (i, y) :: l => leIter st i y ∧ leIters st l
/-- st' says no more than st -/
def St.le (st st' : St) : Prop := leEnv st st'.env ∧ leBoxes st st'.boxes ∧ leRows st st'.rows ∧ (bif st.n.beq st'.n then True else False) ∧ leMaps st st'.maps ∧ leSav st st'.sav ∧ leNest st st'.nest ∧ leIters st st'.iters
/-- a loop's heads: a state for each parameter, what holds of it, and what shrinks -/
structure Ann where
  ι : Type
  at_ : St → ι → St
  inv : St → ι → Prop
  mu : St → ι → Nat
  live : List Nat := []
/-- a loop's head: these slots stay as they are, these are given -/
def St.head (st : St) (live : List Nat) (over : List (Nat × AV)) (rows : List (Nat × Row)) : St := { st with env := over ++ live.map (fun t => (t, st.get t)), rows := rows }
def annR (l : Nat) (ι : Type) (live : List Nat) (over : ι → List (Nat × AV)) (rows : ι → List (Nat × Row)) (inv : ι → Prop) (mu : ι → Nat) : Nat × Ann := (l, { ι := ι, at_ := fun st p => st.head live (over p) (rows p), inv := fun _ p => inv p, mu := fun _ p => mu p })
def annN (l : Nat) (ι : Type) (live : List Nat) (over : ι → List (Nat × AV)) (rows : ι → List (Nat × Row)) (maps : ι → List (Nat × MRow)) (nest : ι → Option NRow) (iters : ι → List (Nat × ItP)) (inv : ι → Prop) (mu : ι → Nat) : Nat × Ann := (l, { ι := ι, at_ := fun st p => { st.head live (over p) (rows p) with maps := maps p, nest := nest p, iters := iters p }, inv := fun _ p => inv p, mu := fun _ p => mu p })
def annM (l : Nat) (ι : Type) (live : List Nat) (over : ι → List (Nat × AV)) (rows : ι → List (Nat × Row)) (maps : ι → List (Nat × MRow)) (inv : ι → Prop) (mu : ι → Nat) : Nat × Ann := (l, { ι := ι, at_ := fun st p => { st.head live (over p) (rows p) with maps := maps p }, inv := fun _ p => inv p, mu := fun _ p => mu p })
def ann (l : Nat) (ι : Type) (live : List Nat) (over : ι → List (Nat × AV)) (inv : ι → Prop) (mu : ι → Nat) : Nat × Ann := annR l ι live over (fun _ => []) inv mu
def ownAV (r : Nat) : AV := .c (.one (.own r))
structure Post where
  normal : St → Prop
  exit : Nat → St → Prop
  ret : St → Prop
  panic : Cell → St → Prop := fun _ _ => False
def Post.block (Q : Post) (id : Nat) : Post := { normal := Q.normal, exit := fun i st => bif i.beq id then Q.normal st else Q.exit i st, ret := Q.ret, panic := Q.panic }
def Post.then (Q : Post) (K : St → Prop) : Post := { Q with normal := K }
def know (st : St) (c : Operand) (b : Bool) : St :=
  match c with
  | .tmp t => st.set t (bool b)
  | _ => st
def annOf (l : Nat) : List (Nat × Ann) → Option Ann
  | [] => none
  | (k, a) :: r => bif k.beq l then some a else annOf l r
/-! a region that draws, its orders joined: the state behind one order, as a guess; each order's end must say as much -/
def simCall (c : Con) (xs : List AV) (o : Oper) (st : St) (args : Array Operand) : Option St :=
  match takeAll c.args (evs (st.freezeAll (ownsA xs)) args.toList), c.fn with
  | some p, some F => bif c.lend && c.res.all CK.flatA then some (st.put o.dst (resAV c.res (F p))) else some ((st.freezeAll (ownsA xs)).put o.dst (resAV c.res (F p)))
  | _, _ => none
def simOp (P : Program) (cons : List Con) (o : Oper) (st : St) : Option St :=
  match o.guard with
  | some _ => none
  | none => match o.op with
  | .alloc e => match o.dst, zeroCells P e with
    | some d, some cs => some (st.newBox d (st.off + d) cs)
    | _, _ => none
  | .box _ x => match o.dst, compCells (st.ev x) with
    | some d, some cs => some (st.newBox d (st.off + d) cs)
    | _, _ => none
  | .call { callee := .value (.func f), args, argTypes } => match conOf f cons with
    | some c => simCall c (evs st args.toList) o st args
    | none => none
  | .call { callee := .builtin .append, args, argTypes } => match args.toList, argTypes.toList, o.dst with
    | [s, x], [t, t'], some d => match P.underlying t, srcOf st 0 (st.ev x) with
      | some (.slice e), some z => match st.ev s with
        | .c (.one (.own r)) => match st.row r with
          | some y => match z.fs.deq y.fs with
            | some ⟨h⟩ => some ((st.setRow r ⟨e, y.fs, y.xs ++ castRow h z.xs⟩).set d (.c (.one (.own r))))
            | none => none
          | none => none
        | .c (.one .nil) => some ((st.setRow (st.off + d) ⟨e, z.fs, z.xs⟩).set d (.c (.one (.own (st.off + d)))))
        | _ => none
      | _, _ => none
    | _, _, _ => none
  | .buildSlice t len parts => match P.underlying t, o.dst with
    | some (.slice e), some d => match rowInfo P e, kdsOf P 20 e with
      | some (size, _), some fs => match buildParts (st.freezeAll (ownsA (partsAV st parts.toList))) ((List.range len).map fun i => (i * size, size)) (List.replicate (len * size) .any) parts.toList with
        | some l => match rowsFrom fs len l with
          | some xs => some (((st.freezeAll (ownsA (partsAV st parts.toList))).setRow (st.off + d) ⟨e, fs, xs⟩).set d (.c (.one (.own (st.off + d)))))
          | none => none
        | none => none
      | _, _ => none
    | _, _ => none
  | .store t x y => match st.ev x, compCells (st.ev y) with
    | .c (.one (.ptr b off)), some cs => match st.box b with
      | some bs => match setCells bs off cs with
        | some bs' => some ((st.setBox b bs').put o.dst (.c (.one .undef)))
        | none => none
      | none => none
    | _, _ => none
  | op => match rop P st op with
    | .ok _ v => some (st.put o.dst v)
    | .no => none
def simAny (P : Program) (cons : List Con) (ops : List Oper) : Nat → Array Bool → St → Option St
  | 0, listed, st => match Region.ready .any ops.toArray listed with
    | [] => some st
    | _ => none
  | f + 1, listed, st => match Region.ready .any ops.toArray listed with
    | [] => some st
    | i :: _ => match ops.toArray[i]? with
      | some o => match simOp P cons o st with
        | some st' => simAny P cons ops f (listed.setIfInBounds i true) st'
        | none => none
      | none => none
def memN (t : Nat) : List Nat → Bool
  | [] => false
  | u :: r => bif u.beq t then true else memN t r
/-- each key once -/
def trimL {α : Type} : List Nat → List (Nat × α) → List (Nat × α)
  | _, [] => []
  | seen, (t, v) :: r => bif memN t seen then trimL seen r else (t, v) :: trimL (t :: seen) r
/-- these slots alone -/
def St.keepJ (st : St) (live : List Nat) : St := { st with env := live.map (fun t => (t, st.get t)), boxes := trimL [] st.boxes }
/-- the orders of this region are joined: behind it these slots stay known -/
def joinAt (id : Nat) (live : List Nat) : Nat × Ann := (1000000 + id, { ι := Unit, at_ := fun st _ => st, inv := fun _ _ => True, mu := fun _ _ => 0, live := live })
def firstReg : Code → Option Nat
  | .region id _ _ => some id
  | .seq a _ => firstReg a
  | .block _ c => firstReg c
  | _ => none
/-- what lies ahead of region id is taken by itself: the region is met in a state that is given -/
def cutAt (id : Nat) (ι : Type) (at_ : St → ι → St) (inv : St → ι → Prop) : Nat × Ann := (2000000 + id, { ι := ι, at_ := at_, inv := inv, mu := fun _ _ => 0 })
def cutOf (anns : List (Nat × Ann)) (c : Code) : Option Ann := match firstReg c with
  | some id => annOf (2000000 + id) anns
  | none => none
def vc (P : Program) (cons : List Con) (anns : List (Nat × Ann)) (H : Inl) : Code → Nat → St → Post → Prop
  | .skip, _, st, Q => Q.normal st
  | .region id ops draw, _, st, Q => match annOf (1000000 + id) anns with
    | none => vregion P cons H Q.panic ops.toList draw st Q.normal
    | some A => match simAny P cons ops.toList ops.size (Array.replicate ops.size false) st with
      | some st1 => vregion P cons H Q.panic ops.toList draw st (fun st2 => st2.le (st1.keepJ A.live)) ∧ Q.normal (st1.keepJ A.live)
      | none => False
  | .seq a b, l, st, Q => match cutOf anns b with
    | none => vc P cons anns H a l st (Q.then fun st' => vc P cons anns H b l st' Q)
    | some A => vc P cons anns H a l st (Q.then fun st' => ∃ p, A.inv st p ∧ st'.le (A.at_ st p)) ∧ ∀ p, A.inv st p → vc P cons anns H b l (A.at_ st p) Q
  | .cond c x y, l, st, Q => match st.ev c with
    | .c (.one (.val .bool b)) => bif b then vc P cons anns H x l (know st c true) Q else vc P cons anns H y l (know st c false) Q
    | _ => False
  | .block id c, _, st, Q => vc P cons anns H c id st (Q.block id)
  | .loop c, l, st, Q => match annOf l anns with
    | some A => (∃ p, A.inv st p ∧ st.le (A.at_ st p)) ∧
        ∀ p, A.inv st p → vc P cons anns H c l (A.at_ st p) (Q.then fun st' => ∃ p', A.inv st p' ∧ A.mu st p' < A.mu st p ∧ st'.le (A.at_ st p'))
    | none => False
  | .exit id, _, st, Q => Q.exit id st
  | .ret, _, st, Q => Q.ret st
  | _, _, _, _ => False
end R
end Go.Proofs.YtldnfdghkdibmaaGreatDoor

/-
  What an operation leaves, new variables, stores and calls among them, is as is known behind it.
-/
set_option linter.unusedVariables false
namespace Go.Proofs.YtldnfdghkdibmaaGreatDoor
open Go.RowKit
namespace R
section
variable {w0 : Base} {w w' : World} {κ : Cx} {st : St} {a : Act} {P : Program}

/-- what changes block g alone -/
structure Only (g : Nat) (w w' : World) : Prop where
  os : w'.os = w.os
  tape : w'.tape = w.tape
  output : w'.output = w.output
  size : w'.heap.size = w.heap.size
  block : ∀ k, k ≠ g → w'.heap[k]? = w.heap[k]?
theorem Only.refl (g : Nat) (w : World) : Only g w w := ⟨rfl, rfl, rfl, rfl, fun _ _ => rfl⟩
theorem Only.set {g : Nat} (h : Only g w w') (i : Nat) (v : Value) : Only g w (w'.setCell ⟨g, i, none⟩ v) :=
  ⟨h.os, h.tape, h.output, by rw [World.size_setCell]; exact h.size, fun k hk => (Below.heap_setCell w' ⟨g, i, none⟩ v k hk).trans (h.block k hk)⟩
theorem Only.keeps {g : Nat} (h : Only g w w') {S : Nat → Prop} (hS : ¬ S g) : Keeps w w' S :=
  ⟨Nat.le_of_eq h.size.symm, fun k o hk _ => World.cell?_of_block (h.block k (fun e => hS (e ▸ hk)))⟩
theorem Only.below {g B : Nat} (h : Only g w w') {w0 : World} (hb : Below B w0 w) (hg : B ≤ g) : Below B w0 w' :=
  ⟨h.os.trans hb.os, h.tape.trans hb.tape, h.output.trans hb.output, by rw [h.size]; exact hb.size, fun k hk => (h.block k (by omega)).trans (hb.block k hk)⟩
theorem Only.belowX {g n0 : Nat} {X : Nat → Prop} (h : Only g w w') {w0 : World} (hb : BelowX X n0 w0 w) (hg : n0 ≤ g ∨ X g) : BelowX X n0 w0 w' where
  os := h.os.trans hb.os
  tape := h.tape.trans hb.tape
  output := h.output.trans hb.output
  size := by rw [h.size]; exact hb.size
  block := fun k hk hx => by
    have hne : k ≠ g := fun e => by
      subst e
      rcases hg with hg | hg
      · omega
      · exact hx hg
    exact (h.block k hne).trans (hb.block k hk hx)
theorem Only.blk {g k : Nat} (h : Only g w w') (hk : k ≠ g) {t : TypeId} {cs : Array Value} (hb : Blk w k t cs) : Blk w' k t cs := (h.block k hk).trans hb
theorem Only.owns {g base : Nat} (h : Only g w w') {e : TypeId} {size n : Nat} {v : Value} {xs : List Value} (ho : w.ownsRow base e size v n xs) (hg : v.ownBlock ≠ some g) : w'.ownsRow base e size v n xs := by
  refine ⟨ho.1, ?_⟩
  rcases ho.2 with h1 | ⟨g2, cap, cur, h1, h2, h3, h4⟩
  · exact .inl h1
  · refine .inr ⟨g2, cap, cur, h1, h2, (h.block g2 (fun e => hg ?_)).trans h3, h4⟩
    subst h1; subst e; rfl
/-- the cells of one block are written, one after the other -/
theorem run_storeCells {g : Nat} {ty : TypeId} : ∀ (vs : List Value) (off i : Nat) (us : Array Value) (w : World), Blk w g ty us → (∀ v ∈ vs, v.oneCell' = true) → (0 < vs.length → off + i + vs.length ≤ us.size) →
    ∃ w', (Go.storeCells ⟨g, off, none⟩ vs i).run P w = .ok () w' ∧ Only g w w' ∧ Blk w' g ty ((vs.zipIdx i).foldl (fun cs (c, j) => cs.setIfInBounds (off + j) c) us)
  | [], off, i, us, w, hb, ho, hs => ⟨w, rfl, Only.refl g w, hb⟩
  | v :: vs, off, i, us, w, hb, ho, hs => by
    have hs := hs (by simp)
    rw [List.length_cons] at hs
    have hlt : off + i < us.size := by omega
    have hc : w.cell? ⟨g, off + i, none⟩ = some us[off + i] := (hb.cell (off + i)).trans (Array.getElem?_eq_getElem hlt)
    have hf : w.frozen? ⟨g, off + i, none⟩ = false := hb.frozen (off + i)
    obtain ⟨w', h1, h2, h3⟩ := run_storeCells vs off (i + 1) (us.setIfInBounds (off + i) v) (w.setCell ⟨g, off + i, none⟩ v) (hb.set_ (off + i) v) (fun u hu => ho u (List.mem_cons_of_mem _ hu)) (fun _ => by rw [Array.size_setIfInBounds]; omega)
    refine ⟨w', ?_, ?_, ?_⟩
    · unfold Go.storeCells
      rw [add_plain2, Sem.run_bind, run_store P w _ v _ (ho v List.mem_cons_self), hc]
      simp only [hf, Bool.false_eq_true, if_false, Result.andThen_ok]
      exact h1
    · have := Only.set (Only.refl g w) (off + i) v
      exact ⟨h2.os.trans this.os, h2.tape.trans this.tape, h2.output.trans this.output, h2.size.trans this.size, fun k hk => (h2.block k hk).trans (this.block k hk)⟩
    · rw [List.zipIdx_cons, List.foldl_cons]
      exact h3

theorem setCells_le : ∀ (l bs r : List Cell) (off : Nat), setCells bs off l = some r → 0 < l.length → off + l.length ≤ bs.length
  | [], bs, r, off, h, h0 => absurd h0 (Nat.lt_irrefl _)
  | x :: l, bs, r, off, h, h0 => by
    have h : (bif Nat.blt off bs.length then setCells (bs.set off x) (off + 1) l else none) = some r := h
    cases hb : Nat.blt off bs.length
    · rw [hb] at h; cases h
    · rw [hb] at h
      rw [Nat.blt_eq] at hb
      rw [List.length_cons]
      rcases Nat.eq_zero_or_pos l.length with e | e
      · omega
      · have := setCells_le l _ r (off + 1) h e
        rw [List.length_set] at this
        omega
theorem forget_rep {κ' : Cx} {d : Nat} (hβ : ∀ b, b ≠ d → κ'.β b = κ.β b) (hρ : κ'.ρ = κ.ρ) (hμ : κ'.μ = κ.μ) (hk : Keeps w w' κ.S) (hS : ∀ g, κ.S g → g < w.heap.size → κ'.S g) {c : Cell} {v : Value} (h : c.Rep κ w v) : (c.forget d).Rep κ' w' v := by
  cases c with
  | ptr b off =>
    show Cell.Rep κ' w' (bif b.beq d then .any else .ptr b off) v
    cases hb : b.beq d
    · have hne : b ≠ d := fun e => by rw [e, Nat.beq_refl] at hb; cases hb
      show v = _
      rw [hβ b hne]; exact h
    · trivial
  | any => trivial
  | undef => exact h
  | nil => exact h
  | val k p => exact Kd.Rep.keeps hk hS k p v h
  | ep fs p f =>
    obtain ⟨g, o, rfl, hg, hs, hr⟩ := h
    exact ⟨g, o, rfl, Nat.lt_of_lt_of_le hg hk.size, hS g hs hg, Kds.Rep.keeps hk hS fs p g o hs hg hr⟩
  | own r => show v = _ ∧ _; rw [hρ]; exact h
  | rp r sz i f => show ∃ g n c, _ ∧ _; rw [hρ]; exact h
  | fn f => exact h
  | clo f k ps =>
    show Cell.Rep κ' w' (bif ps.any (fun p => p.1.beq d) then .any else .clo f k ps) v
    cases hb : ps.any (fun p => p.1.beq d)
    · have e : ∀ p ∈ ps, κ'.ptr p = κ.ptr p := fun p hp => by
        have hne : p.1 ≠ d := fun e => by
          have : ps.any (fun p => p.1.beq d) = true := List.any_eq_true.2 ⟨p, hp, by rw [e, Nat.beq_refl]⟩
          rw [hb] at this; cases this
        unfold Cx.ptr; rw [hβ _ hne]
      show v = .func _ (List.map κ'.ptr _).toArray (List.map κ'.ptr _).toArray
      rw [List.map_congr_left (fun p hp => e p (List.mem_of_mem_take hp)), List.map_congr_left (fun p hp => e p (List.mem_of_mem_drop hp))]
      exact h
    · trivial
  | nilm => exact h
  | mref m => show v = .map (some (κ'.μ m)); rw [hμ]; exact h
  | nref => show v = .map (some κ'.μ.ν); rw [hμ]; exact h
  | iref kk k => show v = .map (κ'.μ.inn (kk.kv k)); rw [hμ]; exact h
  | iter i => show v = .pointer (some ⟨κ'.μ.θ i, 0, none⟩); rw [hμ]; exact h
  | kseq f src =>
    obtain ⟨g, rfl, hg, hs, hc⟩ := h
    have e : κ'.src src = κ.src src := by cases src <;> simp only [Cx.src, hμ]
    exact ⟨g, rfl, Nat.lt_of_lt_of_le hg hk.size, hS g hs hg, by rw [e]; exact (hk.cell g 0 hs hg).trans hc⟩
  | dyn t ks p =>
    obtain ⟨us, rfl, hl, hu⟩ := h
    exact ⟨us, rfl, hl, fun f z hz => let ⟨u, h1, h2⟩ := hu f z hz; ⟨u, h1, Kd.Rep.keeps hk hS z.1 z.2 u h2⟩⟩
theorem forget_cells {κ' : Cx} {d : Nat} (H : ∀ (c : Cell) v, c.Rep κ w v → (c.forget d).Rep κ' w' v) {cs : List Cell} {vs : Array Value} (h : CellsRep κ w cs vs) : CellsRep κ' w' (cs.map (Cell.forget d)) vs :=
  ⟨by rw [List.length_map]; exact h.1, fun i c hc => by
    rw [List.getElem?_map] at hc
    cases hx : cs[i]? with
    | none => rw [hx] at hc; cases hc
    | some x =>
      rw [hx] at hc; injection hc with hc; subst hc
      obtain ⟨v, hv, hr⟩ := h.2.1 i x hx
      exact ⟨v, hv, H x v hr⟩, h.2.2⟩
theorem forget_comp {κ' : Cx} {d : Nat} (H : ∀ (c : Cell) v, c.Rep κ w v → (c.forget d).Rep κ' w' v) {x : Comp} {v : Value} (h : x.Rep κ w v) : (x.forget d).Rep κ' w' v := by
  cases x with
  | one c => exact H c v h
  | agg cs => obtain ⟨vs, rfl, h⟩ := h; exact ⟨vs, rfl, forget_cells H h⟩
theorem forget_av {κ' : Cx} {d : Nat} (H : ∀ (c : Cell) v, c.Rep κ w v → (c.forget d).Rep κ' w' v) {x : AV} {v : Value} (h : x.Rep κ w v) : (x.forget d).Rep κ' w' v := by
  cases x with
  | c x => exact forget_comp H h
  | tup xs =>
    obtain ⟨vs, rfl, h1, h2⟩ := h
    exact ⟨vs, rfl, by rw [List.length_map]; exact h1, fun i c hc => by
      rw [List.getElem?_map] at hc
      cases hx : xs[i]? with
      | none => rw [hx] at hc; cases hc
      | some y =>
        rw [hx] at hc; injection hc with hc; subst hc
        obtain ⟨u, hu, hr⟩ := h2 i y hx
        exact ⟨u, hu, forget_comp H hr⟩⟩
theorem look_forget (d t : Nat) : ∀ env : List (Nat × AV), look (.c (.one .any)) t (env.map fun (t, v) => (t, v.forget d)) = (look (.c (.one .any)) t env).forget d
  | [] => rfl
  | (u, v) :: r => by
    rw [List.map_cons, look_cons, look_cons, look_forget d t r]
    split <;> rfl
theorem look_dropBox (d b : Nat) : ∀ boxes : List (Nat × List Cell), look? b (dropBox d boxes) = if b = d then none else (look? b boxes).map (List.map (Cell.forget d))
  | [] => by show none = _; split <;> rfl
  | (u, cs) :: r => by
    have ih := look_dropBox d b r
    show look? b (bif u.beq d then dropBox d r else (u, cs.map (Cell.forget d)) :: dropBox d r) = _
    by_cases e : u = d
    · subst e
      rw [Nat.beq_refl]
      show look? b (dropBox u r) = _
      rw [ih, look?_cons]
      by_cases e2 : b = u
      · rw [if_pos e2, if_pos e2]
      · rw [if_neg e2, if_neg e2, if_neg (fun h => e2 h.symm)]
    · have : u.beq d = false := Bool.eq_false_iff.mpr fun h => e (Nat.eq_of_beq_eq_true h)
      rw [this]
      show look? b ((u, cs.map (Cell.forget d)) :: dropBox d r) = _
      rw [look?_cons, look?_cons, ih]
      by_cases e2 : u = b
      · subst e2
        rw [if_pos rfl, if_pos rfl, if_neg e]; rfl
      · rw [if_neg e2, if_neg e2]

theorem owns_lt {base : Nat} {e : TypeId} {size n : Nat} {v : Value} {xs : List Value} (ho : w.ownsRow base e size v n xs) : ∀ g, v.ownBlock = some g → g < w.heap.size := by
  intro g hg
  rcases ho.2 with ⟨rfl, _⟩ | ⟨g2, cap, cur, rfl, h2, h3, h4⟩
  · cases hg
  · have : g2 = g := by simpa [Value.ownBlock] using hg
    subst this
    exact Blk.lt (t := e) (cs := cur) h3
theorem cells_val {κ' : Cx} (hV : ∀ k p v, Cell.Rep κ w (.val k p) v → Cell.Rep κ' w' (.val k p) v) : ∀ (ks : Kds) (p : ks.Pay) (c : Cell), c ∈ ks.cells p → ∀ v, c.Rep κ w v → c.Rep κ' w' v
  | .one k, p, c, h, v, hv => by
    obtain rfl : c = .val k p := List.mem_singleton.1 h
    exact hV _ _ _ hv
  | .cons k ks, p, c, h, v, hv => by
    rcases List.mem_cons.1 h with rfl | h
    · exact hV _ _ _ hv
    · exact cells_val hV ks p.2 c h v hv
theorem comp_val {κ' : Cx} (hV : ∀ k p v, Cell.Rep κ w (.val k p) v → Cell.Rep κ' w' (.val k p) v) (x : CK) (p : x.Pay) {v : Value} (h : (x.comp p).Rep κ w v) : (x.comp p).Rep κ' w' v := by
  cases x with
  | one k => exact hV _ _ _ h
  | agg ks =>
    obtain ⟨vs, rfl, h⟩ := h
    exact ⟨vs, rfl, h.1, fun i c hc => let ⟨v, hv, hx⟩ := h.2.1 i c hc; ⟨v, hv, cells_val hV ks p c (List.mem_of_getElem? hc) v hx⟩, h.2.2⟩
def _root_.Go.Obj.mapLike : Obj → Bool
  | .map _ _ | .mapIter _ _ _ _ => true
  | _ => false
theorem owns_cells {base : Nat} {e : TypeId} {size n : Nat} {v : Value} {xs : List Value} (ho : w.ownsRow base e size v n xs) : ∀ g, v.ownBlock = some g → ∀ o : Obj, o.mapLike = true → w.heap[g]? ≠ some o := by
  intro g hg o hml hh
  rcases ho.2 with ⟨rfl, _⟩ | ⟨g2, cap, cur, rfl, h2, h3, h4⟩
  · cases hg
  · have : g2 = g := by simpa [Value.ownBlock] using hg
    subst this
    rw [h3] at hh; injection hh with hh; rw [← hh] at hml; cases hml
theorem EntRep.mono {κ' : Cx} {y : MRow} {es : Array MapEntry} {clock : Nat} (h : EntRep κ w y es clock) (hV : ∀ k p v, Cell.Rep κ w (.val k p) v → Cell.Rep κ' w' (.val k p) v) : EntRep κ' w' y es clock where
  size := h.size
  at_ := fun i x hx => by
    obtain ⟨e, he, h1, h2⟩ := h.at_ i x hx
    exact ⟨e, he, comp_val hV _ _ h1, comp_val hV _ _ h2⟩
  born := h.born
  apart := h.apart
theorem src_eq {κ' : Cx} (hμ : κ'.μ = κ.μ) (src : Src) : κ'.src src = κ.src src := by cases src <;> simp only [Cx.src, hμ]
theorem LeftRep.mono {κ' : Cx} {kk vk : CK} {xs : List (kk.Pay × vk.Pay)} {es : List MapEntry} (h : LeftRep κ w kk vk xs es) (hV : ∀ k p v, Cell.Rep κ w (.val k p) v → Cell.Rep κ' w' (.val k p) v) : LeftRep κ' w' kk vk xs es :=
  ⟨h.1, fun i x hx => let ⟨e, he, h1, h2⟩ := h.2 i x hx; ⟨e, he, comp_val hV _ _ h1, comp_val hV _ _ h2⟩⟩
theorem NestRep.move {κ' : Cx} {n0 : Nat} {maps : List (Nat × MRow)} {y : NRow} (h : NestRep n0 κ maps w y) (hμ : κ'.μ = κ.μ) (hV : ∀ k p v, Cell.Rep κ w (.val k p) v → Cell.Rep κ' w' (.val k p) v) (hm : ∀ (g : Nat) (o : Obj), o.mapLike = true → w.heap[g]? = some o → w'.heap[g]? = some o) : NestRep n0 κ' maps w' y where
  out := by
    obtain ⟨es, clock, h1, h2, h3, h4, h5⟩ := h.out
    rw [hμ]
    exact ⟨es, clock, hm _ _ rfl h1, h2, fun i x hx => let ⟨e, he, q1, q2⟩ := h3 i x hx; ⟨e, he, comp_val hV _ _ q1, q2⟩, h4, h5⟩
  inn := fun i x hx => by
    obtain ⟨g, es, clock, h1, h2, h3, h4, h5, h6⟩ := h.inn i x hx
    rw [hμ]
    exact ⟨g, es, clock, h1, hm _ _ rfl h2, h3.mono hV, h4, h5, h6⟩
  miss := fun k hk => by rw [hμ]; exact h.miss k hk
  inj := fun i j x x' hx hx' e => by rw [hμ] at e; exact h.inj i j x x' hx hx' e
  low := by rw [hμ]; exact h.low
  apart := fun m z hz => by rw [hμ]; exact h.apart m z hz
theorem ItRep.move {κ' : Cx} {n0 : Nat} {z : ItP} {g : Nat} (h : ItRep n0 κ w z g) (hμ : κ'.src z.src = κ.src z.src) (hV : ∀ k p v, Cell.Rep κ w (.val k p) v → Cell.Rep κ' w' (.val k p) v) (hm : ∀ o : Obj, o.mapLike = true → w.heap[g]? = some o → w'.heap[g]? = some o)
    (hb : ∀ (bm : Nat) es c, κ.src z.src = some bm → w.heap[bm]? = some (Obj.map es c) → w'.heap[bm]? = some (Obj.map es c)) : ItRep n0 κ' w' z g := by
  obtain ⟨h0, h⟩ := h
  refine ⟨h0, ?_⟩
  rcases h with ⟨a, b, s, h1, h2⟩ | ⟨bm, es, clock, seen, c0, h1, h2, h3, h4, h5, h6, h7, h8⟩
  · exact .inl ⟨a, b, s, hm _ rfl h1, h2⟩
  · exact .inr ⟨bm, es, clock, seen, c0, hμ.trans h1, hb _ _ _ h1 h2, hm _ rfl h3, h4, h5, h6, h7.mono hV, fun x hx => let ⟨e, s', q1, q2, q3, q4, q5⟩ := h8 x hx; ⟨e, s', q1, q2, q3, comp_val hV _ _ q4, comp_val hV _ _ q5⟩⟩
/-- the frames of those who called, and the maps, in another world -/
theorem Ext.move {κ' : Cx} {st' : St} {g : AV → AV} (h : Ext w0 κ st w) (H : ∀ (c : AV) v, c.Rep κ w v → (g c).Rep κ' w' v) (hsav : ∀ t, look (.c (.one .any)) t st'.sav = g (look (.c (.one .any)) t st.sav)) (hmaps : st'.maps = st.maps ∧ st'.nest = st.nest ∧ st'.iters = st.iters) (hμ : κ'.μ = κ.μ)
    (hV : ∀ k p v, Cell.Rep κ w (.val k p) v → Cell.Rep κ' w' (.val k p) v) (hm : ∀ (g : Nat) (o : Obj), o.mapLike = true → w.heap[g]? = some o → w'.heap[g]? = some o) : Ext w0 κ' st' w' where
  sav := fun t => by rw [hsav]; exact H _ _ (h.sav t)
  map := fun m y hy => by
    have hy : look? m st'.maps = some y := hy
    rw [hmaps.1] at hy
    obtain ⟨es, clock, h1, h2, h3⟩ := h.map m y hy
    rw [hμ]
    exact ⟨es, clock, hm _ _ rfl h1, h2.mono hV, h3⟩
  maps := fun m m' y y' hy hy' e => by
    have hy : look? m st'.maps = some y := hy
    have hy' : look? m' st'.maps = some y' := hy'
    rw [hmaps.1] at hy hy'
    rw [hμ] at e
    exact h.maps m m' y y' hy hy' e
  nest := fun y hy => by
    rw [hmaps.2.1] at hy
    rw [hmaps.1]
    exact (h.nest y hy).move hμ hV hm
  iter := fun i z hz => by
    have hz : look? i st'.iters = some z := hz
    rw [hmaps.2.2] at hz
    rw [hμ]
    exact (h.iter i z hz).move (src_eq hμ _) hV (hm _) (fun bm es c _ => hm bm _ rfl)
  iters := fun i j z z' hz hz' e => by
    have hz : look? i st'.iters = some z := hz
    have hz' : look? j st'.iters = some z' := hz'
    rw [hmaps.2.2] at hz hz'
    rw [hμ] at e
    exact h.iters i j z z' hz hz' e
theorem maps_below (hb : Below w.heap.size w w') : ∀ (g : Nat) (o : Obj), o.mapLike = true → w.heap[g]? = some o → w'.heap[g]? = some o := fun g o _ h => (hb.block g (Array.getElem?_eq_some_iff.1 h).1).trans h
theorem maps_only {g0 : Nat} (h : Only g0 w w') {t : TypeId} {vs : Array Value} (hb : Blk w g0 t vs) : ∀ (g : Nat) (o : Obj), o.mapLike = true → w.heap[g]? = some o → w'.heap[g]? = some o := fun g o ho hg => (h.block g (fun e => by subst e; rw [show w.heap[g]? = _ from hb] at hg; injection hg with hg; rw [← hg] at ho; cases ho)).trans hg
/-- a new variable -/
theorem Rel.newBox (h : Rel w0 κ st a w) {d i : Nat} (hd : d < st.n) {cs : List Cell} {vs : Array Value} (hv : CellsRep κ w cs vs) (ty : TypeId) :
    ∃ κ', Rel w0 κ' (st.newBox d i cs) (a.put (some d) (.pointer (some ⟨w.heap.size, 0, none⟩))) (w.alloc (.cells vs ty)) := by
  have hbel : Below w.heap.size w (w.alloc (.cells vs ty)) := bel_alloc (bel_refl w) _
  have hkeep : Keeps w (w.alloc (.cells vs ty)) κ.S := Keeps.below hbel κ.S
  let κ' : Cx := { κ with β := fun b => if b = i then w.heap.size else κ.β b }
  have H : ∀ (c : Cell) v, c.Rep κ w v → (c.forget i).Rep κ' (w.alloc (.cells vs ty)) v := fun c v hr =>
    forget_rep (κ' := κ') (fun b hb => if_neg hb) rfl rfl hkeep (fun g hg _ => hg) hr
  have hbox : ∀ b bs, (st.newBox d i cs).box b = some bs → (b = i ∧ bs = cs.map (Cell.forget i)) ∨ (b ≠ i ∧ ∃ bs0, st.box b = some bs0 ∧ bs = bs0.map (Cell.forget i)) := fun b bs hb => by
    have hb : look? b ((i, cs.map (Cell.forget i)) :: dropBox i st.boxes) = some bs := hb
    rw [look?_cons, look_dropBox] at hb
    by_cases e : i = b
    · rw [if_pos e] at hb; injection hb with hb; exact .inl ⟨e.symm, hb.symm⟩
    · rw [if_neg e, if_neg (fun h => e h.symm)] at hb
      refine .inr ⟨fun h => e h.symm, ?_⟩
      cases hx : look? b st.boxes with
      | none => rw [hx] at hb; cases hb
      | some bs0 => rw [hx] at hb; injection hb with hb; exact ⟨bs0, hx, hb.symm⟩
  have hlt : ∀ b bs, st.box b = some bs → κ.β b < w.heap.size := fun b bs hb => by
    obtain ⟨vs, ty, hblk, _⟩ := h.box b bs hb
    exact hblk.lt
  refine ⟨κ', ?_⟩
  exact {
    defers := h.defers
    size := by show (a.tmps.setIfInBounds d _).size = _; rw [Array.size_setIfInBounds]; exact h.size
    env := fun t => by
      show AV.Rep κ' _ (look (.c (.one .any)) t ((d, .c (.one (.ptr i 0))) :: st.env.map fun (t, v) => (t, v.forget i))) ((a.tmps.setIfInBounds d _).getD t Go.undef)
      rw [look_cons]
      by_cases e : d = t
      · subst e
        rw [if_pos rfl]
        have hs : d < a.tmps.size := by rw [h.size]; exact hd
        rw [Array.getD_eq_getD_getElem?, Array.getElem?_setIfInBounds_self_of_lt hs]
        show Value.pointer _ = Value.pointer (some ⟨if i = i then w.heap.size else κ.β i, 0, none⟩)
        rw [if_pos rfl]
      · rw [if_neg e, look_forget, Array.getD_eq_getD_getElem?, Array.getElem?_setIfInBounds_ne e, ← Array.getD_eq_getD_getElem?]
        exact forget_av H (h.env t)
    box := fun b bs hb => by
      rcases hbox b bs hb with ⟨rfl, rfl⟩ | ⟨hne, bs0, hb0, rfl⟩
      · refine ⟨vs, ty, ?_, forget_cells H hv, ?_, ?_⟩
        · show Blk _ (if b = b then w.heap.size else κ.β b) ty vs
          rw [if_pos rfl]; exact Blk.new w ty vs
        · show _ ≤ (if b = b then w.heap.size else κ.β b) ∨ _
          rw [if_pos rfl]; exact .inl h.low
        · show ¬ κ.S (if b = b then w.heap.size else κ.β b)
          rw [if_pos rfl]
          exact fun hS => absurd (h.bound _ hS) (Nat.lt_irrefl _)
      · obtain ⟨us, ty', hblk, hr, h1, h2⟩ := h.box b bs0 hb0
        refine ⟨us, ty', ?_, forget_cells H hr, ?_, ?_⟩
        · show Blk _ (if b = i then w.heap.size else κ.β b) ty' us
          rw [if_neg hne]; exact hblk.bel hbel
        · show _ ≤ (if b = i then w.heap.size else κ.β b) ∨ w0.X (if b = i then w.heap.size else κ.β b)
          rw [if_neg hne]; exact h1
        · show ¬ κ.S (if b = i then w.heap.size else κ.β b)
          rw [if_neg hne]; exact h2
    apart := fun b b' bs bs' hb hb' e => by
      have e : (if b = i then w.heap.size else κ.β b) = (if b' = i then w.heap.size else κ.β b') := e
      rcases hbox b bs hb with ⟨rfl, _⟩ | ⟨hne, bs0, hb0, _⟩ <;> rcases hbox b' bs' hb' with ⟨rfl, _⟩ | ⟨hne', bs0', hb0', _⟩
      · rfl
      · rw [if_pos rfl, if_neg hne'] at e
        exact absurd (hlt _ _ hb0') (by omega)
      · rw [if_neg hne, if_pos rfl] at e
        exact absurd (hlt _ _ hb0) (by omega)
      · rw [if_neg hne, if_neg hne'] at e
        exact h.apart b b' _ _ hb0 hb0' e
    row := fun r x hx => by
      obtain ⟨cells, ho, hc, hn⟩ := h.row r x hx
      refine ⟨cells, owns_bel ho hbel, hc.keeps hkeep (fun g hg _ => hg), fun g hg => ⟨(hn g hg).1, fun b bs hb e => ?_⟩⟩
      have e : (if b = i then w.heap.size else κ.β b) = g := e
      rcases hbox b bs hb with ⟨rfl, _⟩ | ⟨hne, bs0, hb0, _⟩
      · rw [if_pos rfl] at e
        have : g < w.heap.size := owns_lt ho g hg
        omega
      · rw [if_neg hne] at e
        exact (hn g hg).2 b bs0 hb0 e
    rows := h.rows
    bound := fun g hg => Nat.lt_of_lt_of_le (h.bound g hg) hbel.size
    below := h.below.alloc h.low _
    old := h.old
    ext := h.ext.move (g := fun v => v.forget i) (fun c v hr => forget_av H hr) (fun t => look_forget i t st.sav) ⟨rfl, rfl, rfl⟩ rfl (fun k p v hr => H (.val k p) v hr) (maps_below hbel) }

/-- a variable is written -/
theorem Rel.store (h : Rel w0 κ st a w) {b : Nat} {bs : List Cell} (hb : st.box b = some bs) (ho : Only (κ.β b) w w') {cs : List Cell} {vs : Array Value} {ty : TypeId} (hblk : Blk w' (κ.β b) ty vs) (hv : CellsRep κ w cs vs) : Rel w0 κ (st.setBox b cs) a w' := by
  obtain ⟨us, ty0, hblk0, hr0, hge, hS⟩ := h.box b bs hb
  have hkeep : Keeps w w' κ.S := ho.keeps hS
  have H : ∀ (c : Cell) v, c.Rep κ w v → c.Rep κ w' v := fun c v hr => hr.keeps rfl rfl rfl hkeep (fun g hg _ => hg)
  have hbox : ∀ b' bs', (st.setBox b cs).box b' = some bs' → (b' = b ∧ bs' = cs) ∨ (b' ≠ b ∧ st.box b' = some bs') := fun b' bs' hx => by
    have hx : look? b' ((b, cs) :: st.boxes) = some bs' := hx
    rw [look?_cons] at hx
    by_cases e : b = b'
    · rw [if_pos e] at hx; injection hx with hx; exact .inl ⟨e.symm, hx.symm⟩
    · rw [if_neg e] at hx; exact .inr ⟨fun h => e h.symm, hx⟩
  have hold : ∀ b' bs', (st.setBox b cs).box b' = some bs' → ∃ bs0, st.box b' = some bs0 := fun b' bs' hx => by
    rcases hbox b' bs' hx with ⟨rfl, _⟩ | ⟨_, h1⟩
    · exact ⟨bs, hb⟩
    · exact ⟨bs', h1⟩
  exact {
    defers := h.defers
    size := h.size
    env := fun t => AV.Rep.mono H (h.env t)
    box := fun b' bs' hx => by
      rcases hbox b' bs' hx with ⟨rfl, rfl⟩ | ⟨hne, hx⟩
      · exact ⟨vs, ty, hblk, hv.mono H, hge, hS⟩
      · obtain ⟨us', ty', hblk', hr', h1, h2⟩ := h.box b' bs' hx
        exact ⟨us', ty', ho.blk (fun e => hne (h.apart b' b bs' bs hx hb e)) hblk', hr'.mono H, h1, h2⟩
    apart := fun b1 b2 c1 c2 h1 h2 e => by
      obtain ⟨x1, y1⟩ := hold b1 c1 h1
      obtain ⟨x2, y2⟩ := hold b2 c2 h2
      exact h.apart b1 b2 x1 x2 y1 y2 e
    row := fun r x hx => by
      obtain ⟨cells, hown, hc, hn⟩ := h.row r x hx
      refine ⟨cells, ho.owns hown (fun e => (hn _ e).2 b bs hb rfl), hc.keeps hkeep (fun g hg _ => hg), fun g hg => ⟨(hn g hg).1, fun b' bs' hb' e => ?_⟩⟩
      obtain ⟨x1, y1⟩ := hold b' bs' hb'
      exact (hn g hg).2 b' x1 y1 e
    rows := h.rows
    bound := fun g hg => by rw [ho.size]; exact h.bound g hg
    below := ho.belowX h.below hge
    old := h.old
    ext := h.ext.move (g := id) (fun c v hr => AV.Rep.mono H hr) (fun t => rfl) ⟨rfl, rfl, rfl⟩ rfl (fun k p v hr => H (.val k p) v hr) (maps_only ho hblk0) }

/-- a later world, with new data in it -/
theorem Rel.later (h : Rel w0 κ st a w) (hb : Below w.heap.size w w') : Rel w0 { κ with S := fun g => κ.S g ∨ (w.heap.size ≤ g ∧ g < w'.heap.size) } st a w' := by
  have H : ∀ (c : Cell) v, c.Rep κ w v → c.Rep { κ with S := fun g => κ.S g ∨ (w.heap.size ≤ g ∧ g < w'.heap.size) } w' v := fun c v hr =>
    Cell.Rep.keeps (κ := κ) (κ' := { κ with S := fun g => κ.S g ∨ (w.heap.size ≤ g ∧ g < w'.heap.size) }) rfl rfl rfl (Keeps.below hb κ.S) (fun g hg _ => .inl hg) hr
  exact {
    defers := h.defers
    size := h.size
    env := fun t => AV.Rep.mono H (h.env t)
    box := fun b bs hx => by
      obtain ⟨us, ty, hblk, hr, h1, h2⟩ := h.box b bs hx
      refine ⟨us, ty, hblk.bel hb, hr.mono H, h1, fun hh => ?_⟩
      have hlt := hblk.lt
      rcases hh with hh | ⟨hh, _⟩
      · exact h2 hh
      · exact absurd hlt (Nat.not_lt.2 hh)
    apart := h.apart
    row := fun r x hx => by
      obtain ⟨cells, ho, hc, hn⟩ := h.row r x hx
      refine ⟨cells, owns_bel ho hb, RowCells.keeps (κ := κ) (κ' := { κ with S := fun g => κ.S g ∨ (w.heap.size ≤ g ∧ g < w'.heap.size) }) (Keeps.below hb κ.S) (fun g hg _ => .inl hg) hc, fun g hg => ⟨fun hh => ?_, (hn g hg).2⟩⟩
      have hlt := owns_lt ho g hg
      rcases hh with hh | ⟨hh, _⟩
      · exact (hn g hg).1 hh
      · exact absurd hlt (Nat.not_lt.2 hh)
    rows := h.rows
    bound := fun g hg => by
      rcases hg with hg | ⟨_, hg⟩
      · exact Nat.lt_of_lt_of_le (h.bound g hg) hb.size
      · exact hg
    below := h.below.trans (hb.mono h.low)
    old := fun g hg => by
      rcases hg with hg | ⟨hg, _⟩
      · exact h.old g hg
      · exact .inr (Nat.le_trans h.low hg)
    ext := h.ext.move (g := id) (fun c v hr => AV.Rep.mono H hr) (fun t => rfl) ⟨rfl, rfl, rfl⟩ rfl (fun k p v hr => H (.val k p) v hr) (maps_below hb) }

theorem Rel.drew (h : Rel w0 κ st a w) : Rel w0 κ st a { w with drawn := w.drawn + 1 } :=
  { defers := h.defers, size := h.size
    env := fun t => AV.Rep.mono (fun c v hr => hr.keeps rfl rfl rfl (Keeps.below (bel_drew (bel_refl w)) κ.S) (fun g hg _ => hg)) (h.env t)
    box := fun b bs hx => by
      obtain ⟨us, ty, hblk, hr, h1, h2⟩ := h.box b bs hx
      exact ⟨us, ty, hblk, hr.mono (fun c v hr => hr.keeps rfl rfl rfl (Keeps.below (bel_drew (bel_refl w)) κ.S) (fun g hg _ => hg)), h1, h2⟩
    apart := h.apart
    row := fun r x hx => by
      obtain ⟨cells, ho, hc, hn⟩ := h.row r x hx
      exact ⟨cells, ho, hc.keeps (Keeps.below (bel_drew (bel_refl w)) κ.S) (fun g hg _ => hg), hn⟩
    rows := h.rows
    bound := h.bound
    below := h.below.drew
    old := h.old
    ext := h.ext.move (g := id) (fun c v hr => AV.Rep.mono (fun c v hr => hr.keeps rfl rfl rfl (Keeps.below (bel_drew (bel_refl w)) κ.S) (fun g hg _ => hg)) hr) (fun t => rfl) ⟨rfl, rfl, rfl⟩ rfl (fun k p v hr => Cell.Rep.keeps (κ := κ) (κ' := κ) (c := .val k p) rfl rfl rfl (Keeps.below (bel_drew (bel_refl w)) κ.S) (fun g hg _ => hg) hr) (fun g o _ h => h) }

/-- a known boolean, or a skipped operation -/
theorem Rel.know (h : Rel w0 κ st a w) {t : Nat} {v : AV} (hv : v.Rep κ w (a.tmps.getD t Go.undef)) : Rel w0 κ (st.set t v) a w :=
  { defers := h.defers, size := h.size
    env := fun u => by
      rw [St.get_set]
      split
      · rename_i e; subst e; exact hv
      · exact h.env u
    box := h.box
    apart := h.apart
    row := h.row
    rows := h.rows
    bound := h.bound
    below := h.below
    old := h.old
    ext := ⟨h.ext.sav, h.ext.map, h.ext.maps, h.ext.nest, h.ext.iter, h.ext.iters⟩ }

theorem Rel.put (h : Rel w0 κ st a w) {d : Option Nat} (hd : putOk st d = true) {v : AV} {u : Value} (hv : v.Rep κ w u) : Rel w0 κ (st.put d v) (a.put d u) w := by
  cases d with
  | none => exact h
  | some d => exact h.set (by unfold putOk at hd; rw [Nat.blt_eq] at hd; exact hd) hv

theorem mapC_cells {κ' : Cx} {g : Cell → Cell} (H : ∀ (c : Cell) v, c.Rep κ w v → (g c).Rep κ' w' v) {cs : List Cell} {vs : Array Value} (h : CellsRep κ w cs vs) : CellsRep κ' w' (cs.map g) vs :=
  ⟨by rw [List.length_map]; exact h.1, fun i c hc => by
    rw [List.getElem?_map] at hc
    cases hx : cs[i]? with
    | none => rw [hx] at hc; cases hc
    | some x =>
      rw [hx] at hc; injection hc with hc; subst hc
      obtain ⟨v, hv, hr⟩ := h.2.1 i x hx
      exact ⟨v, hv, H x v hr⟩, h.2.2⟩
theorem mapC_comp {κ' : Cx} {g : Cell → Cell} (H : ∀ (c : Cell) v, c.Rep κ w v → (g c).Rep κ' w' v) {x : Comp} {v : Value} (h : x.Rep κ w v) : (x.mapC g).Rep κ' w' v := by
  cases x with
  | one c => exact H c v h
  | agg cs => obtain ⟨vs, rfl, h⟩ := h; exact ⟨vs, rfl, mapC_cells H h⟩
theorem mapC_av {κ' : Cx} {g : Cell → Cell} (H : ∀ (c : Cell) v, c.Rep κ w v → (g c).Rep κ' w' v) {x : AV} {v : Value} (h : x.Rep κ w v) : (x.mapC g).Rep κ' w' v := by
  cases x with
  | c x => exact mapC_comp H h
  | tup xs =>
    obtain ⟨vs, rfl, h1, h2⟩ := h
    exact ⟨vs, rfl, by rw [List.length_map]; exact h1, fun i c hc => by
      rw [List.getElem?_map] at hc
      cases hx : xs[i]? with
      | none => rw [hx] at hc; cases hc
      | some y =>
        rw [hx] at hc; injection hc with hc; subst hc
        obtain ⟨u, hu, hr⟩ := h2 i y hx
        exact ⟨u, hu, mapC_comp H hr⟩⟩
theorem look_mapC (g : Cell → Cell) (hg : g .any = .any) (t : Nat) : ∀ env : List (Nat × AV), look (.c (.one .any)) t (env.map fun (t, v) => (t, v.mapC g)) = (look (.c (.one .any)) t env).mapC g
  | [] => by show AV.c (.one .any) = AV.c (.one (g .any)); rw [hg]
  | (u, v) :: r => by
    rw [List.map_cons, look_cons, look_cons, look_mapC g hg t r]
    split <;> rfl
theorem look?_map {α : Type} (g : α → α) (b : Nat) : ∀ l : List (Nat × α), look? b (l.map fun (b, cs) => (b, g cs)) = (look? b l).map g
  | [] => rfl
  | (u, v) :: r => by
    rw [List.map_cons, look?_cons, look?_cons, look?_map g b r]
    split <;> rfl
theorem look?_dropKey {α : Type} (r b : Nat) : ∀ l : List (Nat × α), look? b (dropKey r l) = if b = r then none else look? b l
  | [] => by show none = _; split <;> rfl
  | (u, v) :: l => by
    have ih := look?_dropKey r b l
    show look? b (bif u.beq r then dropKey r l else (u, v) :: dropKey r l) = _
    by_cases e : u = r
    · subst e
      rw [Nat.beq_refl]
      show look? b (dropKey u l) = _
      rw [ih, look?_cons]
      by_cases e2 : b = u
      · rw [if_pos e2, if_pos e2]
      · rw [if_neg e2, if_neg e2, if_neg (fun h => e2 h.symm)]
    · have : u.beq r = false := Bool.eq_false_iff.mpr fun h => e (Nat.eq_of_beq_eq_true h)
      rw [this]
      show look? b ((u, v) :: dropKey r l) = _
      rw [look?_cons, look?_cons, ih]
      by_cases e2 : u = b
      · subst e2
        rw [if_pos rfl, if_pos rfl, if_neg e]
      · rw [if_neg e2, if_neg e2]

/-- the world grew, row r anew: what is read of other things stays -/
theorem Rel.setRow (h : Rel w0 κ st a w) {r : Nat} {v' : Value} {x : Row} {cells : List Value} {row : Option Nat} (hg : w.grownBy w' row) (hrow : ∀ g, row = some g → (κ.ρ r).ownBlock = some g ∧ (st.row r).isSome = true)
    (hown : w'.ownsRow w0.n0 x.e x.fs.size v' x.xs.length cells) (hcells : RowCells κ w x.fs x.xs cells)
    (hnew : ∀ g, v'.ownBlock = some g → (row = some g ∧ (κ.ρ r).ownBlock = some g) ∨ w.heap.size ≤ g) :
    Rel w0 { κ with ρ := fun k => if k = r then v' else κ.ρ k } (st.setRow r x) a w' := by
  have hnot : ∀ g, row = some g → ¬ κ.S g ∧ (∀ b cs, st.box b = some cs → κ.β b ≠ g) ∧ w0.n0 ≤ g ∧ ∀ k y, st.row k = some y → (κ.ρ k).ownBlock = some g → k = r := fun g hg' => by
    obtain ⟨h1, h2⟩ := hrow g hg'
    obtain ⟨y, hy⟩ := Option.isSome_iff_exists.1 h2
    obtain ⟨cs, ho, _, hn⟩ := h.row r y hy
    exact ⟨(hn g h1).1, (hn g h1).2, owns_block ho g h1, fun k z hz hk => h.rows k r z y hz hy g hk h1⟩
  have hkeep : Keeps w w' κ.S := ⟨hg.size, fun g o hs hlt => World.cell?_of_block (hg.block g hlt (fun e => by
    cases hr : row with
    | none => rw [hr] at e; cases e
    | some k => rw [hr] at e; injection e with e; subst e; exact (hnot g hr).1 hs))⟩
  have hnmap : ∀ g, row = some g → ∀ o : Obj, o.mapLike = true → w.heap[g]? ≠ some o := fun g hg' o hml hh => by
    obtain ⟨h1, h2⟩ := hrow g hg'
    obtain ⟨y, hy⟩ := Option.isSome_iff_exists.1 h2
    obtain ⟨cs, ho, _, _⟩ := h.row r y hy
    exact owns_cells ho g h1 o hml hh
  let κ' : Cx := { κ with ρ := fun k => if k = r then v' else κ.ρ k }
  have H : ∀ (c : Cell) v, c.Rep κ w v → (c.dropRow r).Rep κ' w' v := fun c v hr => by
    cases c with
    | own k =>
      show Cell.Rep κ' w' (bif k.beq r then .any else .own k) v
      cases hb : k.beq r
      · have hne : k ≠ r := fun e => by rw [e, Nat.beq_refl] at hb; cases hb
        show v = (if k = r then v' else κ.ρ k) ∧ _
        rw [if_neg hne]; exact hr
      · trivial
    | rp k sz i f =>
      show Cell.Rep κ' w' (bif k.beq r then .any else .rp k sz i f) v
      cases hb : k.beq r
      · have hne : k ≠ r := fun e => by rw [e, Nat.beq_refl] at hb; cases hb
        show ∃ g n c, (if k = r then v' else κ.ρ k) = _ ∧ _
        rw [if_neg hne]; exact hr
      · trivial
    | any => trivial
    | undef => exact hr
    | nil => exact hr
    | val k p => exact Kd.Rep.keeps hkeep (fun g hg _ => hg) k p v hr
    | ptr b off => exact hr
    | ep fs p f =>
      obtain ⟨g, o, rfl, hlt, hs, hr⟩ := hr
      exact ⟨g, o, rfl, Nat.lt_of_lt_of_le hlt hkeep.size, hs, Kds.Rep.keeps hkeep (fun g hg _ => hg) fs p g o hs hlt hr⟩
    | fn f => exact hr
    | clo f k ps => exact hr
    | nilm => exact hr
    | mref m => exact hr
    | nref => exact hr
    | iref kk k => exact hr
    | iter i => exact hr
    | kseq f src =>
      obtain ⟨g, rfl, hg, hs, hc⟩ := hr
      exact ⟨g, rfl, Nat.lt_of_lt_of_le hg hkeep.size, hs, by rw [src_eq (κ := κ) (κ' := κ') rfl]; exact (hkeep.cell g 0 hs hg).trans hc⟩
    | dyn t ks p =>
      obtain ⟨us, rfl, hl, hu⟩ := hr
      exact ⟨us, rfl, hl, fun f z hz => let ⟨u, h1, h2⟩ := hu f z hz; ⟨u, h1, Kd.Rep.keeps hkeep (fun g hg _ => hg) z.1 z.2 u h2⟩⟩
  have hbox : ∀ b bs, (st.setRow r x).box b = some bs → ∃ bs0, st.box b = some bs0 ∧ bs = bs0.map (Cell.dropRow r) := fun b bs hb => by
    have hb : look? b (st.boxes.map fun (b, cs) => (b, cs.map (Cell.dropRow r))) = some bs := hb
    rw [look?_map] at hb
    cases hx : look? b st.boxes with
    | none => rw [hx] at hb; cases hb
    | some bs0 => rw [hx] at hb; injection hb with hb; exact ⟨bs0, hx, hb.symm⟩
  have hrows : ∀ k y, (st.setRow r x).row k = some y → (k = r ∧ y = x) ∨ (k ≠ r ∧ st.row k = some y) := fun k y hy => by
    have hy : look? k ((r, x) :: dropKey r st.rows) = some y := hy
    rw [look?_cons, look?_dropKey] at hy
    by_cases e : r = k
    · rw [if_pos e] at hy; injection hy with hy; exact .inl ⟨e.symm, hy.symm⟩
    · rw [if_neg e, if_neg (fun h => e h.symm)] at hy; exact .inr ⟨fun h => e h.symm, hy⟩
  have hblk : ∀ {k : Nat} {t : TypeId} {cs : Array Value}, Blk w k t cs → some k ≠ row → Blk w' k t cs := fun hb hne => (hg.block _ hb.lt hne).trans hb
  have hv'b : ∀ g, v'.ownBlock = some g → ¬ κ.S g ∧ (∀ b cs, st.box b = some cs → κ.β b ≠ g) ∧ ∀ k y, k ≠ r → st.row k = some y → (κ.ρ k).ownBlock ≠ some g := fun g hg' => by
    rcases hnew g hg' with ⟨h1, _⟩ | h1
    · obtain ⟨q1, q2, _, q4⟩ := hnot g h1
      exact ⟨q1, q2, fun k y hk hy e => hk (q4 k y hy e)⟩
    · refine ⟨fun hs => absurd (h.bound g hs) (Nat.not_lt.2 h1), fun b cs hb e => ?_, fun k y _ hy e => ?_⟩
      · obtain ⟨us, ty, hbk, _⟩ := h.box b cs hb
        have := hbk.lt
        omega
      · obtain ⟨cs, ho, _⟩ := h.row k y hy
        have := owns_lt ho g e
        omega
  exact {
    defers := h.defers
    size := h.size
    env := fun t => by
      show AV.Rep _ _ (look _ t (st.env.map fun (t, v) => (t, v.mapC (Cell.dropRow r)))) _
      rw [look_mapC _ rfl]
      exact mapC_av H (h.env t)
    box := fun b bs hb => by
      obtain ⟨bs0, hb0, rfl⟩ := hbox b bs hb
      obtain ⟨us, ty, hbk, hr, h1, h2⟩ := h.box b bs0 hb0
      refine ⟨us, ty, hblk hbk (fun e => ?_), mapC_cells H hr, h1, h2⟩
      cases hr' : row with
      | none => rw [hr'] at e; cases e
      | some k => rw [hr'] at e; injection e with e; exact (hnot k hr').2.1 b bs0 hb0 e
    apart := fun b b' bs bs' hb hb' e => by
      obtain ⟨bs0, hb0, _⟩ := hbox b bs hb
      obtain ⟨bs0', hb0', _⟩ := hbox b' bs' hb'
      exact h.apart b b' _ _ hb0 hb0' e
    row := fun k y hy => by
      rcases hrows k y hy with ⟨rfl, rfl⟩ | ⟨hne, hy⟩
      · refine ⟨cells, ?_, hcells.keeps hkeep (fun g hg _ => hg), fun g hg' => ?_⟩
        · show w'.ownsRow _ _ _ (if k = k then v' else κ.ρ k) _ _
          rw [if_pos rfl]; exact hown
        · have hg' : (if k = k then v' else κ.ρ k).ownBlock = some g := hg'
          rw [if_pos rfl] at hg'
          obtain ⟨q1, q2, _⟩ := hv'b g hg'
          refine ⟨q1, fun b bs hb e => ?_⟩
          obtain ⟨bs0, hb0, _⟩ := hbox b bs hb
          exact q2 b bs0 hb0 e
      · obtain ⟨cs, ho, hc, hn⟩ := h.row k y hy
        refine ⟨cs, ?_, hc.keeps hkeep (fun g hg _ => hg), fun g hg' => ?_⟩
        · show w'.ownsRow _ _ _ (if k = r then v' else κ.ρ k) _ _
          rw [if_neg hne]
          refine ho.kept hg ?_
          cases hb : (κ.ρ k).ownBlock with
          | none => exact .inl rfl
          | some g =>
            refine .inr fun e => ?_
            exact hne ((hnot g e.symm).2.2.2 k y hy hb)
        · have hg' : (if k = r then v' else κ.ρ k).ownBlock = some g := hg'
          rw [if_neg hne] at hg'
          refine ⟨(hn g hg').1, fun b bs hb e => ?_⟩
          obtain ⟨bs0, hb0, _⟩ := hbox b bs hb
          exact (hn g hg').2 b bs0 hb0 e
    rows := fun k k' y y' hy hy' g hk hk' => by
      have hk : (if k = r then v' else κ.ρ k).ownBlock = some g := hk
      have hk' : (if k' = r then v' else κ.ρ k').ownBlock = some g := hk'
      rcases hrows k y hy with ⟨rfl, _⟩ | ⟨hne, hy2⟩ <;> rcases hrows k' y' hy' with ⟨rfl, _⟩ | ⟨hne', hy2'⟩
      · rfl
      · rw [if_pos rfl] at hk
        rw [if_neg hne'] at hk'
        exact absurd hk' ((hv'b g hk).2.2 k' y' hne' hy2')
      · rw [if_pos rfl] at hk'
        rw [if_neg hne] at hk
        exact absurd hk ((hv'b g hk').2.2 k y hne hy2)
      · rw [if_neg hne] at hk
        rw [if_neg hne'] at hk'
        exact h.rows k k' y y' hy2 hy2' g hk hk'
    bound := fun g hs => Nat.lt_of_lt_of_le (h.bound g hs) hg.size
    below := h.below.grown hg h.low (fun k hk => (hnot k hk).2.2.1)
    old := h.old
    ext := h.ext.move (g := fun v => v.mapC (Cell.dropRow r)) (fun c v hr => mapC_av H hr) (fun t => look_mapC _ rfl t st.sav) ⟨rfl, rfl, rfl⟩ rfl (fun k p v hr => H (.val k p) v hr) (fun g o ho hh => (hg.block g (Array.getElem?_eq_some_iff.1 hh).1 (fun e => hnmap g e.symm o ho hh)).trans hh) }

/-- an owned row is data from now on -/
theorem owned_data (h : Rel w0 κ st a w) {r : Nat} {x : Row} (hx : st.row r = some x) {S' : Nat → Prop} (hS : ∀ g, κ.S g → S' g) (hS' : ∀ g, (κ.ρ r).ownBlock = some g → S' g) : (Kd.sl x.fs).Rep w S' x.xs (κ.ρ r) := by
  obtain ⟨cells, ho, hc, _⟩ := h.row r x hx
  obtain ⟨A, c, he⟩ := owns_slice ho
  have hcap : x.xs.length ≤ c := by
    rcases ho.2 with ⟨hv, h0⟩ | ⟨g, cap, cur, hv, _, _, h4, _⟩
    · rw [h0]; exact Nat.zero_le _
    · rw [he] at hv; injection hv with _ _ hcc; omega
  refine ⟨A, c, he, hcap, fun hpos => ?_⟩
  have hpos : 0 < x.xs.length := hpos
  have hA : ∃ g, A = some ⟨g, 0, none⟩ := by
    rcases ho.2 with ⟨_, h0⟩ | ⟨g, cap, cur, hv, _⟩
    · omega
    · rw [hv] at he; injection he with he; exact ⟨g, he.symm⟩
  obtain ⟨g, rfl⟩ := hA
  have hbl : (κ.ρ r).ownBlock = some g := by rw [he]; rfl
  refine ⟨g, 0, rfl, owns_lt ho g hbl, hS' g hbl, fun i y hy => ?_⟩
  have hi : i < x.xs.length := (List.getElem?_eq_some_iff.1 hy).1
  obtain ⟨_, hr⟩ := row_elem h hx he hi
  have hge : x.xs.getD i x.fs.dflt = y := by
    have hy : x.xs[i]? = some y := hy
    rw [List.getD_eq_getElem?_getD, hy]; rfl
  rw [hge] at hr
  rw [Nat.zero_add]
  -- more blocks may be read
  exact Kds.Rep.of_flds x.fs y g _ fun f z hz => by
    obtain ⟨u, hu, hzr⟩ := Kds.Rep.fld x.fs y g _ f z hr hz
    exact ⟨u, hu, Kd.Rep.keeps (Keeps.refl w κ.S) (fun g hg _ => hS g hg) z.1 z.2 u hzr⟩
theorem Rel.freeze (h : Rel w0 κ st a w) (r : Nat) : ∃ κ', Rel w0 κ' (st.freeze r) a w ∧ κ'.β = κ.β ∧ κ'.μ = κ.μ := by
  unfold St.freeze
  cases hx : st.row r with
  | none => exact ⟨κ, h, rfl, rfl⟩
  | some x =>
    let κ' : Cx := { κ with S := fun g => κ.S g ∨ (κ.ρ r).ownBlock = some g }
    have hdata := owned_data h hx (S' := κ'.S) (fun g hg => .inl hg) (fun g hg => .inr hg)
    have hkeep : ∀ {c : Cell} {v : Value}, c.Rep κ w v → c.Rep κ' w v := fun hr => Cell.Rep.keeps (κ := κ) (κ' := κ') rfl rfl rfl (Keeps.refl w κ.S) (fun g hg _ => .inl hg) hr
    have H : ∀ (c : Cell) v, c.Rep κ w v → (c.thaw r x).Rep κ' w v := fun c v hr => by
      cases c with
      | own k =>
        show Cell.Rep κ' w (bif k.beq r then .val (.sl x.fs) x.xs else .own k) v
        cases hb : k.beq r
        · exact hkeep (c := .own k) hr
        · obtain rfl := Nat.eq_of_beq_eq_true hb
          obtain ⟨rfl, _⟩ := hr
          exact hdata
      | rp k sz i f =>
        show Cell.Rep κ' w (bif k.beq r then .any else .rp k sz i f) v
        cases hb : k.beq r
        · exact hkeep (c := .rp k sz i f) hr
        · trivial
      | any => trivial
      | undef => exact hr
      | nil => exact hr
      | val k p => exact hkeep (c := .val k p) hr
      | ptr b off => exact hr
      | ep fs p f => exact hkeep (c := .ep fs p f) hr
      | fn f => exact hr
      | clo f k ps => exact hr
      | nilm => exact hr
      | mref m => exact hr
      | nref => exact hr
      | iref kk k => exact hr
      | iter i => exact hr
      | kseq f src => exact hkeep (c := .kseq f src) hr
      | dyn t ks p => exact hkeep (c := .dyn t ks p) hr
    have hbox : ∀ b bs, look? b (st.boxes.map fun (b, cs) => (b, cs.map (Cell.thaw r x))) = some bs → ∃ bs0, st.box b = some bs0 ∧ bs = bs0.map (Cell.thaw r x) := fun b bs hb => by
      rw [look?_map] at hb
      cases hx : look? b st.boxes with
      | none => rw [hx] at hb; cases hb
      | some bs0 => rw [hx] at hb; injection hb with hb; exact ⟨bs0, hx, hb.symm⟩
    have hrow : ∀ k y, look? k (dropKey r st.rows) = some y → k ≠ r ∧ st.row k = some y := fun k y hy => by
      rw [look?_dropKey] at hy
      split at hy
      · cases hy
      · rename_i hne; exact ⟨hne, hy⟩
    obtain ⟨cells0, ho0, _, hn0⟩ := h.row r x hx
    refine ⟨κ', ?_, rfl, rfl⟩
    exact {
      defers := h.defers
      size := h.size
      env := fun t => by
        show AV.Rep _ _ (look _ t (st.env.map fun (t, v) => (t, v.mapC (Cell.thaw r x)))) _
        rw [look_mapC _ rfl]
        exact mapC_av H (h.env t)
      box := fun b bs hb => by
        obtain ⟨bs0, hb0, rfl⟩ := hbox b bs hb
        obtain ⟨us, ty, hbk, hr, h1, h2⟩ := h.box b bs0 hb0
        refine ⟨us, ty, hbk, mapC_cells H hr, h1, fun hh => ?_⟩
        rcases hh with hh | hh
        · exact h2 hh
        · exact (hn0 _ hh).2 b bs0 hb0 rfl
      apart := fun b b' bs bs' hb hb' e => by
        obtain ⟨bs0, hb0, _⟩ := hbox b bs hb
        obtain ⟨bs0', hb0', _⟩ := hbox b' bs' hb'
        exact h.apart b b' _ _ hb0 hb0' e
      row := fun k y hy => by
        obtain ⟨hne, hy⟩ := hrow k y hy
        obtain ⟨cs, ho, hc, hn⟩ := h.row k y hy
        refine ⟨cs, ho, RowCells.keeps (κ := κ) (κ' := κ') (Keeps.refl w κ.S) (fun g hg _ => .inl hg) hc, fun g hg => ⟨fun hh => ?_, fun b bs hb e => ?_⟩⟩
        · rcases hh with hh | hh
          · exact (hn g hg).1 hh
          · exact hne (h.rows k r y x hy hx g hg hh)
        · obtain ⟨bs0, hb0, _⟩ := hbox b bs hb
          exact (hn g hg).2 b bs0 hb0 e
      rows := fun k k' y y' hy hy' => h.rows k k' y y' (hrow k y hy).2 (hrow k' y' hy').2
      bound := fun g hg => by
        rcases hg with hg | hg
        · exact h.bound g hg
        · exact owns_lt ho0 g hg
      below := h.below
      old := fun g hg => by
        rcases hg with hg | hg
        · exact h.old g hg
        · exact .inr (owns_block ho0 g hg)
      ext := h.ext.move (g := fun v => v.mapC (Cell.thaw r x)) (fun c v hr => mapC_av H hr) (fun t => look_mapC _ rfl t st.sav) ⟨rfl, rfl, rfl⟩ rfl (fun k p v hr => H (.val k p) v hr) (fun g o _ hh => hh) }
theorem Rel.freezeAll_μ : ∀ (l : List Nat) {κ : Cx} {st : St}, Rel w0 κ st a w → ∃ κ', Rel w0 κ' (st.freezeAll l) a w ∧ κ'.μ = κ.μ
  | [], κ, st, h => ⟨κ, h, rfl⟩
  | r :: l, κ, st, h => by
    obtain ⟨κ1, h1, _, e⟩ := h.freeze r
    obtain ⟨κ2, h2, e2⟩ := Rel.freezeAll_μ l h1
    exact ⟨κ2, h2, e2.trans e⟩
theorem Rel.freezeAll : ∀ (l : List Nat) {κ : Cx} {st : St}, Rel w0 κ st a w → ∃ κ', Rel w0 κ' (st.freezeAll l) a w
  | [], κ, st, h => ⟨κ, h⟩
  | r :: l, κ, st, h => by
    obtain ⟨κ1, h1, _⟩ := h.freeze r
    exact Rel.freezeAll l h1
theorem freezeAll_n : ∀ (l : List Nat) (st : St), (st.freezeAll l).n = st.n
  | [], st => rfl
  | r :: l, st => by
    show ((st.freeze r).freezeAll l).n = _
    rw [freezeAll_n l]
    unfold St.freeze
    split <;> rfl
end
end R
end Go.Proofs.YtldnfdghkdibmaaGreatDoor

/-
  A new map, a map written: what is known behind it.
-/
set_option linter.unusedVariables false
namespace Go.Proofs.YtldnfdghkdibmaaGreatDoor
open Go.RowKit
namespace R
section
variable {w0 : Base} {w w' : World} {κ : Cx} {st : St} {a : Act} {P : Program}

theorem Rel.newMap (h : Rel w0 κ st a w) (m : Nat) (t : TypeId) (kk vk : CK) : ∃ κ', Rel w0 κ' (st.newMap m ⟨t, kk, vk, []⟩) a (w.alloc (.map #[] 0)) ∧ κ'.μ m = w.heap.size := by
  have hbel : Below w.heap.size w (w.alloc (.map #[] 0)) := bel_alloc (bel_refl w) _
  have hkeep : Keeps w (w.alloc (.map #[] 0)) κ.S := Keeps.below hbel κ.S
  let κ' : Cx := { κ with μ := { κ.μ with at_ := fun k => if k = m then w.heap.size else κ.μ k } }
  have H : ∀ (c : Cell) v, c.Rep κ w v → (c.dropMap m).Rep κ' (w.alloc (.map #[] 0)) v := fun c v hr => by
    cases c with
    | mref k =>
      show Cell.Rep κ' _ (bif k.beq m then .any else .mref k) v
      cases hb : k.beq m
      · have hne : k ≠ m := fun e => by rw [e, Nat.beq_refl] at hb; cases hb
        show v = .map (some (if k = m then w.heap.size else κ.μ k))
        rw [if_neg hne]; exact hr
      · trivial
    | any => trivial
    | undef => exact hr
    | nil => exact hr
    | val k p => exact Kd.Rep.keeps hkeep (fun g hg _ => hg) k p v hr
    | ptr b off => exact hr
    | ep fs p f =>
      obtain ⟨g, o, rfl, hlt, hs, hr⟩ := hr
      exact ⟨g, o, rfl, Nat.lt_of_lt_of_le hlt hkeep.size, hs, Kds.Rep.keeps hkeep (fun g hg _ => hg) fs p g o hs hlt hr⟩
    | own r => exact hr
    | rp r sz i f => exact hr
    | fn f => exact hr
    | clo f k ps => exact hr
    | nilm => exact hr
    | nref => exact hr
    | iref kk k => exact hr
    | iter i => exact hr
    | kseq f src =>
      cases src with
      | map k =>
        show Cell.Rep κ' _ (bif k.beq m then .any else .kseq f (.map k)) v
        cases hb : k.beq m
        · have hne : k ≠ m := fun e => by rw [e, Nat.beq_refl] at hb; cases hb
          obtain ⟨g, rfl, hg, hs, hc⟩ := hr
          refine ⟨g, rfl, Nat.lt_of_lt_of_le hg hkeep.size, hs, (hkeep.cell g 0 hs hg).trans ?_⟩
          rw [hc]
          show _ = some (Value.map (some (if k = m then w.heap.size else κ.μ k)))
          rw [if_neg hne]; rfl
        · trivial
      | inner kk k =>
        obtain ⟨g, rfl, hg, hs, hc⟩ := hr
        exact ⟨g, rfl, Nat.lt_of_lt_of_le hg hkeep.size, hs, (hkeep.cell g 0 hs hg).trans hc⟩
      | none =>
        obtain ⟨g, rfl, hg, hs, hc⟩ := hr
        exact ⟨g, rfl, Nat.lt_of_lt_of_le hg hkeep.size, hs, (hkeep.cell g 0 hs hg).trans hc⟩
    | dyn t ks p =>
      obtain ⟨us, rfl, hl, hu⟩ := hr
      exact ⟨us, rfl, hl, fun f z hz => let ⟨u, h1, h2⟩ := hu f z hz; ⟨u, h1, Kd.Rep.keeps hkeep (fun g hg _ => hg) z.1 z.2 u h2⟩⟩
  have HV : ∀ k p v, Cell.Rep κ w (.val k p) v → Cell.Rep κ' (w.alloc (.map #[] 0)) (.val k p) v := fun k p v hr => H (.val k p) v hr
  have hbox : ∀ b bs, (st.newMap m ⟨t, kk, vk, []⟩).box b = some bs → ∃ bs0, st.box b = some bs0 ∧ bs = bs0.map (Cell.dropMap m) := fun b bs hb => by
    have hb : look? b (st.boxes.map fun (b, cs) => (b, cs.map (Cell.dropMap m))) = some bs := hb
    rw [look?_map] at hb
    cases hx : look? b st.boxes with
    | none => rw [hx] at hb; cases hb
    | some bs0 => rw [hx] at hb; injection hb with hb; exact ⟨bs0, hx, hb.symm⟩
  have hmaps : ∀ k y, (st.newMap m ⟨t, kk, vk, []⟩).map k = some y → (k = m ∧ y = ⟨t, kk, vk, []⟩) ∨ (k ≠ m ∧ st.map k = some y) := fun k y hy => by
    have hy : look? k ((m, ⟨t, kk, vk, []⟩) :: dropKey m st.maps) = some y := hy
    rw [look?_cons, look?_dropKey] at hy
    by_cases e : m = k
    · rw [if_pos e] at hy; injection hy with hy; exact .inl ⟨e.symm, hy.symm⟩
    · rw [if_neg e, if_neg (fun h => e h.symm)] at hy; exact .inr ⟨fun h => e h.symm, hy⟩
  have hlt : ∀ k y, st.map k = some y → κ.μ k < w.heap.size := fun k y hy => by
    obtain ⟨es, clock, h1, _⟩ := h.ext.map k y hy
    exact (Array.getElem?_eq_some_iff.1 h1).1
  refine ⟨κ', ?_, if_pos rfl⟩
  exact {
    defers := h.defers
    size := h.size
    env := fun t => by
      show AV.Rep _ _ (look _ t (st.env.map fun (t, v) => (t, v.mapC (Cell.dropMap m)))) _
      rw [look_mapC _ rfl]
      exact mapC_av H (h.env t)
    box := fun b bs hb => by
      obtain ⟨bs0, hb0, rfl⟩ := hbox b bs hb
      obtain ⟨us, ty, hbk, hr, h1, h2⟩ := h.box b bs0 hb0
      exact ⟨us, ty, hbk.bel hbel, mapC_cells H hr, h1, h2⟩
    apart := fun b b' bs bs' hb hb' e => by
      obtain ⟨bs0, hb0, _⟩ := hbox b bs hb
      obtain ⟨bs0', hb0', _⟩ := hbox b' bs' hb'
      exact h.apart b b' _ _ hb0 hb0' e
    row := fun r x hx => by
      obtain ⟨cells, ho, hc, hn⟩ := h.row r x hx
      refine ⟨cells, owns_bel ho hbel, RowCells.keeps (κ := κ) (κ' := κ') hkeep (fun g hg _ => hg) hc, fun g hg => ⟨(hn g hg).1, fun b bs hb e => ?_⟩⟩
      obtain ⟨bs0, hb0, _⟩ := hbox b bs hb
      exact (hn g hg).2 b bs0 hb0 e
    rows := h.rows
    bound := fun g hg => Nat.lt_of_lt_of_le (h.bound g hg) hbel.size
    below := h.below.alloc h.low _
    old := h.old
    ext := {
      sav := fun t => by
        show AV.Rep _ _ (look _ t (st.sav.map fun (t, v) => (t, v.mapC (Cell.dropMap m)))) _
        rw [look_mapC _ rfl]
        exact mapC_av H (h.ext.sav t)
      map := fun k y hy => by
        rcases hmaps k y hy with ⟨rfl, rfl⟩ | ⟨hne, hy⟩
        · refine ⟨#[], 0, ?_, ⟨rfl, (fun i x hx => by cases hx), (fun e he => by cases he), by simp⟩, ?_⟩
          · show (w.alloc (.map #[] 0)).heap[if k = k then w.heap.size else κ.μ k]? = _
            rw [if_pos rfl]; exact World.alloc_heap_new w _
          · show _ ≤ (if k = k then w.heap.size else κ.μ k)
            rw [if_pos rfl]; exact h.low
        · obtain ⟨es, clock, h1, h2, h3⟩ := h.ext.map k y hy
          refine ⟨es, clock, ?_, h2.mono HV, ?_⟩
          · show (w.alloc (.map #[] 0)).heap[if k = m then w.heap.size else κ.μ k]? = _
            rw [if_neg hne]; exact maps_below hbel _ _ rfl h1
          · show _ ≤ (if k = m then w.heap.size else κ.μ k)
            rw [if_neg hne]; exact h3
      maps := fun k k' y y' hy hy' e => by
        have e : (if k = m then w.heap.size else κ.μ k) = (if k' = m then w.heap.size else κ.μ k') := e
        rcases hmaps k y hy with ⟨e1, _⟩ | ⟨hne, hy2⟩ <;> rcases hmaps k' y' hy' with ⟨e2, _⟩ | ⟨hne', hy2'⟩
        · rw [e1, e2]
        · rw [if_pos e1, if_neg hne'] at e
          have := hlt k' y' hy2'
          omega
        · rw [if_pos e2, if_neg hne] at e
          have := hlt k y hy2
          omega
        · rw [if_neg hne, if_neg hne'] at e
          exact h.ext.maps k k' y y' hy2 hy2' e
      nest := fun y hy => by
        have hN := h.ext.nest y hy
        have hN' : NestRep w0.n0 κ' st.maps (w.alloc (.map #[] 0)) y := {
          out := by
            obtain ⟨es, clock, h1, h2, h3, h4⟩ := hN.out
            exact ⟨es, clock, maps_below hbel _ _ rfl h1, h2, fun i x hx => let ⟨e, he, q1, q2⟩ := h3 i x hx; ⟨e, he, comp_val HV _ _ q1, q2⟩, h4⟩
          inn := fun i x hx => by
            obtain ⟨g, es, clock, h1, h2, h3, h4, h5, h6⟩ := hN.inn i x hx
            refine ⟨g, es, clock, h1, maps_below hbel _ _ rfl h2, h3.mono HV, h4, h5, fun k z hz => ?_⟩
            show (if k = m then w.heap.size else κ.μ k) ≠ g
            split
            · have := (Array.getElem?_eq_some_iff.1 h2).1; omega
            · exact h6 k z hz
          miss := hN.miss
          inj := hN.inj
          low := hN.low
          apart := fun k z hz => by
            show (if k = m then w.heap.size else κ.μ k) ≠ κ.μ.ν
            obtain ⟨es, clock, h1, _⟩ := hN.out
            split
            · have := (Array.getElem?_eq_some_iff.1 h1).1; omega
            · exact hN.apart k z hz }
        have hsub : ∀ k z, look? k ((m, (⟨t, kk, vk, []⟩ : MRow)) :: dropKey m st.maps) = some z → k = m ∨ ∃ z0, look? k st.maps = some z0 := fun k z hz => by
          rcases hmaps k z hz with ⟨e, _⟩ | ⟨_, hz⟩
          · exact .inl e
          · exact .inr ⟨z, hz⟩
        exact {
          out := hN'.out
          inn := fun i x hx => by
            obtain ⟨g, es, clock, h1, h2, h3, h4, h5, h6⟩ := hN'.inn i x hx
            refine ⟨g, es, clock, h1, h2, h3, h4, h5, fun k z hz => ?_⟩
            rcases hsub k z hz with rfl | ⟨z0, hz0⟩
            · show (if k = k then w.heap.size else κ.μ k) ≠ g
              rw [if_pos rfl]
              obtain ⟨g2, es2, c2, q1, q2, _⟩ := hN.inn i x hx
              have h1 : κ.μ.inn (y.kk.kv x.1) = some g := h1
              rw [h1] at q1; injection q1 with q1; subst q1
              have := (Array.getElem?_eq_some_iff.1 q2).1; omega
            · exact h6 k z0 hz0
          miss := hN'.miss
          inj := hN'.inj
          low := hN'.low
          apart := fun k z hz => by
            rcases hsub k z hz with rfl | ⟨z0, hz0⟩
            · show (if k = k then w.heap.size else κ.μ k) ≠ κ.μ.ν
              rw [if_pos rfl]
              obtain ⟨es, clock, h1, _⟩ := hN.out
              have := (Array.getElem?_eq_some_iff.1 h1).1; omega
            · exact hN'.apart k z0 hz0 }
      iter := fun i z hz => by cases hz
      iters := fun i j z z' hz => by cases hz } }

/-- a world with another map in a map's block -/
def World.setMapB (w : World) (g : Nat) (es : Array MapEntry) (clock : Nat) : World := { w with heap := w.heap.setIfInBounds g (.map es clock) }
theorem setMapB_other {g k : Nat} {es : Array MapEntry} {clock : Nat} (h : k ≠ g) : (World.setMapB w g es clock).heap[k]? = w.heap[k]? := by
  show (w.heap.setIfInBounds g _)[k]? = _
  rw [Array.getElem?_setIfInBounds_ne (Ne.symm h)]
theorem setMapB_self {g : Nat} {es : Array MapEntry} {clock : Nat} (h : g < w.heap.size) : (World.setMapB w g es clock).heap[g]? = some (.map es clock) := by
  show (w.heap.setIfInBounds g _)[g]? = _
  rw [Array.getElem?_setIfInBounds_self_of_lt h]
theorem setMapB_cell {g : Nat} {es es0 : Array MapEntry} {clock c0 : Nat} (h : w.heap[g]? = some (.map es0 c0)) (p : Addr) : (World.setMapB w g es clock).cell? p = w.cell? p := by
  unfold World.cell?
  by_cases e : p.block = g
  · rw [e, setMapB_self (Array.getElem?_eq_some_iff.1 h).1, h]
  · rw [setMapB_other e]
theorem setMapB_size (g : Nat) (es : Array MapEntry) (clock : Nat) : (World.setMapB w g es clock).heap.size = w.heap.size := by
  show (w.heap.setIfInBounds g _).size = _
  rw [Array.size_setIfInBounds]
theorem setMapB_grown {g : Nat} {es : Array MapEntry} {clock : Nat} : w.grownBy (World.setMapB w g es clock) (some g) := ⟨rfl, rfl, rfl, Nat.le_of_eq (setMapB_size g es clock).symm, fun k _ hk => setMapB_other (fun e => hk (by rw [e]))⟩
theorem Rel.setMap (h : Rel w0 κ st a w) {m : Nat} {y y' : MRow} (hy : st.map m = some y) {es : Array MapEntry} {clock : Nat} (hE : EntRep κ w y' es clock) : Rel w0 κ (st.setMap m y') a (World.setMapB w (κ.μ m) es clock) := by
  obtain ⟨es0, c0, hg, hE0, hn⟩ := h.ext.map m y hy
  have hcell := setMapB_cell (es := es) (clock := clock) hg
  have hsize := setMapB_size (w := w) (κ.μ m) es clock
  have hkeep : ∀ S, Keeps w (World.setMapB w (κ.μ m) es clock) S := fun S => ⟨Nat.le_of_eq hsize.symm, fun g o _ _ => hcell _⟩
  have H : ∀ (c : Cell) v, c.Rep κ w v → c.Rep κ (World.setMapB w (κ.μ m) es clock) v := fun c v hr => hr.keeps rfl rfl rfl (hkeep _) (fun g hg _ => hg)
  have hblk : ∀ {k : Nat} {t : TypeId} {cs : Array Value}, Blk w k t cs → Blk (World.setMapB w (κ.μ m) es clock) k t cs := fun {k t cs} hb => (setMapB_other (fun e => by subst e; rw [show w.heap[κ.μ m]? = _ from hb] at hg; cases hg)).trans hb
  have hmaps : ∀ k z, (st.setMap m y').map k = some z → (k = m ∧ z = y') ∨ (k ≠ m ∧ st.map k = some z) := fun k z hz => by
    have hz : look? k ((m, y') :: dropKey m st.maps) = some z := hz
    rw [look?_cons, look?_dropKey] at hz
    by_cases e : m = k
    · rw [if_pos e] at hz; injection hz with hz; exact .inl ⟨e.symm, hz.symm⟩
    · rw [if_neg e, if_neg (fun h => e h.symm)] at hz; exact .inr ⟨fun h => e h.symm, hz⟩
  exact {
    defers := h.defers
    size := h.size
    env := fun t => AV.Rep.mono H (h.env t)
    box := fun b bs hb => by
      obtain ⟨us, ty, hbk, hr, h1, h2⟩ := h.box b bs hb
      exact ⟨us, ty, hblk hbk, hr.mono H, h1, h2⟩
    apart := h.apart
    row := fun r x hx => by
      obtain ⟨cells, ho, hc, hn⟩ := h.row r x hx
      refine ⟨cells, ho.kept setMapB_grown ?_, hc.keeps (hkeep _) (fun g hg _ => hg), hn⟩
      cases hb : (κ.ρ r).ownBlock with
      | none => exact .inl rfl
      | some g =>
        refine .inr fun e => ?_
        injection e with e
        exact owns_cells ho g hb _ rfl (by rw [e]; exact hg)
    rows := h.rows
    bound := fun g hg => by rw [hsize]; exact h.bound g hg
    below := h.below.grown setMapB_grown h.low (fun k hk => by injection hk with hk; rw [← hk]; exact hn)
    old := h.old
    ext := {
      sav := fun t => AV.Rep.mono H (h.ext.sav t)
      map := fun k z hz => by
        rcases hmaps k z hz with ⟨rfl, rfl⟩ | ⟨hne, hz⟩
        · exact ⟨es, clock, setMapB_self (Array.getElem?_eq_some_iff.1 hg).1, hE.mono (fun k p v hr => H (.val k p) v hr), hn⟩
        · obtain ⟨es1, c1, h1, h2, h3⟩ := h.ext.map k z hz
          exact ⟨es1, c1, (setMapB_other (fun e => hne (h.ext.maps k m z y hz hy e))).trans h1, h2.mono (fun k p v hr => H (.val k p) v hr), h3⟩
      maps := fun k k' z z' hz hz' e => by
        have hold : ∀ k z, (st.setMap m y').map k = some z → ∃ z0, st.map k = some z0 := fun k z hz => by
          rcases hmaps k z hz with ⟨rfl, _⟩ | ⟨_, hz⟩
          · exact ⟨y, hy⟩
          · exact ⟨z, hz⟩
        obtain ⟨z1, h1⟩ := hold k z hz
        obtain ⟨z2, h2⟩ := hold k' z' hz'
        exact h.ext.maps k k' z1 z2 h1 h2 e
      nest := fun z hz => by
        have hN := h.ext.nest z hz
        have hsub : ∀ k x, look? k ((m, y') :: dropKey m st.maps) = some x → ∃ x0, look? k st.maps = some x0 := fun k x hx => by
          rcases hmaps k x hx with ⟨rfl, _⟩ | ⟨_, hx⟩
          · exact ⟨y, hy⟩
          · exact ⟨x, hx⟩
        exact {
          out := by
            obtain ⟨es1, c1, h1, h2, h3, h4⟩ := hN.out
            exact ⟨es1, c1, (setMapB_other (fun e => hN.apart m y hy e.symm)).trans h1, h2, fun i x hx => let ⟨e, he, q1, q2⟩ := h3 i x hx; ⟨e, he, comp_val (fun k p v hr => H (.val k p) v hr) _ _ q1, q2⟩, h4⟩
          inn := fun i x hx => by
            obtain ⟨g, es1, c1, h1, h2, h3, h4, h5, h6⟩ := hN.inn i x hx
            exact ⟨g, es1, c1, h1, (setMapB_other (fun e => h6 m y hy e.symm)).trans h2, h3.mono (fun k p v hr => H (.val k p) v hr), h4, h5, fun k x hx => let ⟨x0, hx0⟩ := hsub k x hx; h6 k x0 hx0⟩
          miss := hN.miss
          inj := hN.inj
          low := hN.low
          apart := fun k x hx => let ⟨x0, hx0⟩ := hsub k x hx; hN.apart k x0 hx0 }
      iter := fun i z hz => by cases hz
      iters := fun i j z z' hz => by cases hz } }

/-- a map's value at a key, written -/
theorem run_mapUpdate_kv {y : MRow} {es : Array MapEntry} {clock g : Nat} {t kt et : TypeId} (ht : P.underlying t = some (.map kt et)) (hk : keyOk P kt y.kk = true) (hE : EntRep κ w y es clock) (hg : w.heap[g]? = some (.map es clock)) (k : y.kk.Pay) (v : y.vk.Pay) {u : Value} (hu : (y.vk.comp v).Rep κ w u) :
    ∃ es' clock', (Instr.mapUpdate t (.map (some g)) (y.kk.kv k) u).run P w = .ok () (World.setMapB w g es' clock') ∧ EntRep κ w ⟨y.t, y.kk, y.vk, Mp.put y.kk.eqB k v y.xs⟩ es' clock' := by
  have hp := keyOk_plain hk
  have hkeys := hE.keys hp
  have hf := run_findKey_kv hk k w es.toList y.xs hkeys
  have hkr : (y.kk.comp k).Rep κ w (y.kk.kv k) := ck_rep hp
  cases hi : Mp.idx y.kk.eqB k y.xs 0 with
  | none =>
    rw [hi] at hf
    refine ⟨es.push { key := y.kk.kv k, val := u, born := clock }, clock + 1, ?_, ?_⟩
    · simp only [Instr.mapUpdate, Sem.run_bind, run_underlying ht, Result.andThen_ok, MapKept.run_getObj_map hg, key_check hk, hf, Option.bind_none, MapKept.run_setObj_map _ hg]
      rfl
    · show EntRep κ w ⟨y.t, y.kk, y.vk, Mp.put y.kk.eqB k v y.xs⟩ _ _
      rw [Mp.put_none _ _ _ _ _ hi]
      exact {
        size := by rw [Array.size_push, hE.size]; simp
        at_ := fun i x hx => by
          have hx : (y.xs ++ [(k, v)])[i]? = some x := hx
          rcases Nat.lt_trichotomy i y.xs.length with hlt | heq | hgt
          · rw [List.getElem?_append_left hlt] at hx
            obtain ⟨e, he, h1, h2⟩ := hE.at_ i x hx
            refine ⟨e, ?_, h1, h2⟩
            rw [Array.getElem?_push, if_neg (by rw [hE.size]; omega)]
            exact he
          · subst heq
            rw [List.getElem?_append_right (Nat.le_refl _), Nat.sub_self] at hx
            injection hx with hx; subst hx
            exact ⟨{ key := y.kk.kv k, val := u, born := clock }, by rw [Array.getElem?_push, if_pos hE.size.symm], hkr, hu⟩
          · rw [List.getElem?_eq_none (by simp; omega)] at hx; cases hx
        born := fun e he => by
          rw [Array.toList_push, List.mem_append] at he
          rcases he with he | he
          · exact Nat.lt_succ_of_lt (hE.born e he)
          · obtain rfl := List.mem_singleton.1 he
            exact Nat.lt_succ_self _
        apart := by
          rw [Array.toList_push, List.map_append, List.nodup_append]
          refine ⟨hE.apart, by simp, fun a ha b hb e => ?_⟩
          simp only [List.map_cons, List.map_nil, List.mem_singleton] at hb
          obtain ⟨x, hx, rfl⟩ := List.mem_map.1 ha
          have := hE.born x hx
          omega }
  | some r =>
    obtain ⟨q, _, hq, hqe, hq2⟩ := Mp.idx_at _ _ _ _ _ _ hi
    rw [Nat.sub_zero] at hq
    obtain ⟨e, he, he1, he2⟩ := hE.at_ r.1 q hq
    have he' : es.toList[r.1]? = some e := by simpa using he
    have hlt : r.1 < es.size := (Array.getElem?_eq_some_iff.1 he).1
    have hek : e.key = y.kk.kv k := by rw [ck_value hp he1, ck_eq hqe]
    rw [hi] at hf
    refine ⟨es.modify r.1 fun e => { e with key := y.kk.kv k, val := u }, clock, ?_, ?_⟩
    · simp only [Instr.mapUpdate, Sem.run_bind, run_underlying ht, Result.andThen_ok, MapKept.run_getObj_map hg, key_check hk, hf, Option.bind_some, he', Option.map_some, he, Option.getD_some, hek, key_stays hp, MapKept.run_setObj_map _ hg]
      rfl
    · show EntRep κ w ⟨y.t, y.kk, y.vk, Mp.put y.kk.eqB k v y.xs⟩ _ _
      rw [Mp.put_some _ _ _ _ _ _ _ hi, Nat.sub_zero]
      have hb : (es.modify r.1 fun e => { e with key := y.kk.kv k, val := u }).toList.map (·.born) = es.toList.map (·.born) := by
        apply List.ext_getElem?
        intro i
        rw [List.getElem?_map, List.getElem?_map, Array.getElem?_toList, Array.getElem?_toList, Array.getElem?_modify]
        split
        · rw [Option.map_map]; rfl
        · rfl
      exact {
        size := by rw [Array.size_modify, hE.size]; simp
        at_ := fun i x hx => by
          have hx : (y.xs.set r.1 (k, v))[i]? = some x := hx
          rw [List.getElem?_set] at hx
          by_cases ei : r.1 = i
          · subst ei
            rw [if_pos rfl, if_pos (by rw [← hE.size]; exact hlt)] at hx
            injection hx with hx; subst hx
            exact ⟨{ e with key := y.kk.kv k, val := u }, by rw [Array.getElem?_modify, if_pos rfl, he]; rfl, hkr, hu⟩
          · rw [if_neg ei] at hx
            obtain ⟨e', h1, h2, h3⟩ := hE.at_ i x hx
            exact ⟨e', by rw [Array.getElem?_modify, if_neg ei]; exact h1, h2, h3⟩
        born := fun e' he' => by
          have : e'.born ∈ es.toList.map (·.born) := by rw [← hb]; exact List.mem_map.2 ⟨e', he', rfl⟩
          obtain ⟨x, hx, hxe⟩ := List.mem_map.1 this
          rw [← hxe]; exact hE.born x hx
        apart := by rw [hb]; exact hE.apart }
end
end R
end Go.Proofs.YtldnfdghkdibmaaGreatDoor

/-
  Contracts; what 'vop' asks of an operation is enough.
-/
set_option linter.unusedVariables false
namespace Go.Proofs.YtldnfdghkdibmaaGreatDoor
open Go.RowKit
namespace R
section
variable {w0 : Base} {w w' : World} {κ : Cx} {st : St} {a : Act} {P : Program}

def Cx.of (S : Nat → Prop) : Cx := { β := fun _ => 0, ρ := fun _ => Go.undef, S := S }
def CompsRep (κ : Cx) (w : World) (xs : List Comp) (vs : List Value) : Prop :=
  vs.length = xs.length ∧ ∀ (i : Nat) c, xs[i]? = some c → ∃ u, vs[i]? = some u ∧ c.Rep κ w u
/-- a function does what its contract says -/
def Con.Holds (P : Program) (c : Con) : Prop :=
  ((∃ fn, P.funcs[c.f]? = some fn ∧ (fn.name == "runtime.NumGoroutine") = false ∧ fn.body.isNone = false) ∧ ∀ F, c.fn = some F → ∀ p r, c.post p r → r = F p) ∧
  ∀ (p : Pays c.args) (vs : List Value) (w : World) (S : Nat → Prop), (∀ g, S g → g < w.heap.size) → c.pre p → CompsRep (Cx.of S) w (compsOf c.args p) vs →
    Calls P c.f vs.toArray w fun e w' => ∃ (r : Pays c.res) (v : Value), e = .returned v ∧ c.post p r ∧
      (resAV c.res r).Rep (Cx.of fun g => S g ∨ (w.heap.size ≤ g ∧ g < w'.heap.size)) w' v ∧ Below w.heap.size w w'

theorem takeCell_sound {k : Kd} {c : Cell} {p : k.Pay} {v : Value} (h : takeCell k c = some p) (hv : c.Rep κ w v) : k.Rep w κ.S p v := by
  unfold takeCell at h
  split at h
  · rename_i k' q
    split at h
    · rename_i e _
      subst e
      injection h with h; subst h
      exact hv
    · cases h
  · split at h
    · rename_i fs
      injection h with h; subst h
      obtain rfl : v = .slice none 0 0 := hv
      exact ⟨none, 0, rfl, Nat.le_refl _, fun h => absurd h (Nat.lt_irrefl _)⟩
    · cases h
  · cases h
/-- rows of plain data -/
inductive Plain : Cell → Prop where
  | val (k : Kd) (p : k.Pay) : Plain (.val k p)
theorem Plain.rep {c : Cell} (h : Plain c) {κ' : Cx} (hS : κ'.S = κ.S) {v : Value} (hv : c.Rep κ w v) : c.Rep κ' w v := by
  cases h with
  | val k p => show k.Rep w κ'.S p v; rw [hS]; exact hv
theorem cells_plain : ∀ (ks : Kds) (p : ks.Pay), ∀ c ∈ ks.cells p, Plain c
  | .one k, p, c, h => by
    obtain rfl : c = .val k p := List.mem_singleton.1 h
    exact .val k p
  | .cons k ks, p, c, h => by
    rcases List.mem_cons.1 h with rfl | h
    · exact .val k p.1
    · exact cells_plain ks p.2 c h
theorem CellsRep.plain {cs : List Cell} {vs : Array Value} (h : ∀ c ∈ cs, Plain c) {κ' : Cx} (hS : κ'.S = κ.S) (hr : CellsRep κ w cs vs) : CellsRep κ' w cs vs :=
  ⟨hr.1, fun i c hc => let ⟨v, hv, hx⟩ := hr.2.1 i c hc; ⟨v, hv, (h c (List.mem_of_getElem? hc)).rep hS hx⟩, hr.2.2⟩
theorem comp_plain (x : CK) (p : x.Pay) {κ' : Cx} (hS : κ'.S = κ.S) {v : Value} (h : (x.comp p).Rep κ w v) : (x.comp p).Rep κ' w v := by
  cases x with
  | one k => exact Plain.rep (.val k p) hS h
  | agg ks => obtain ⟨vs, rfl, h⟩ := h; exact ⟨vs, rfl, h.plain (cells_plain ks p) hS⟩
theorem takeCells_sound : ∀ (ks : Kds) (cs : List Cell) (p : ks.Pay) (vs : List Value), takeCells ks cs = some p → CellsRep κ w cs vs.toArray → CellsRep κ w (ks.cells p) vs.toArray
  | .one k, [], p, vs, h, hv => by simp [takeCells] at h
  | .one k, c :: c' :: r, p, vs, h, hv => by simp [takeCells] at h
  | .one k, [c], p, vs, h, hv => by
    have h : takeCell k c = some p := h
    refine ⟨hv.1, fun i c' hc => ?_, hv.2.2⟩
    cases i with
    | zero =>
      injection hc with hc; subst hc
      obtain ⟨u, hu, hr⟩ := hv.2.1 0 _ rfl
      exact ⟨u, hu, takeCell_sound h hr⟩
    | succ i => cases hc
  | .cons k ks, [], p, vs, h, hv => by simp [takeCells] at h
  | .cons k ks, c :: cs', p, vs, h, hv => by
    have h : (match takeCell k c, takeCells ks cs' with
      | some p, some q => some (p, q)
      | _, _ => none) = some p := h
    split at h
    · rename_i p1 p2 h1 h2
      injection h with h; subst h
      cases vs with
      | nil => have := hv.1; simp at this
      | cons v vs =>
        have hv' : CellsRep κ w cs' vs.toArray := ⟨by have := hv.1; simpa using this, fun i c hc => by
          obtain ⟨y, hy, hr⟩ := hv.2.1 (i + 1) c hc
          exact ⟨y, by simpa using hy, hr⟩, fun i y hy => hv.2.2 (i + 1) y (by simpa using hy)⟩
        have ih := takeCells_sound _ cs' p2 vs h2 hv'
        refine ⟨?_, fun i c' hc => ?_, hv.2.2⟩
        · have := ih.1
          show (v :: vs).toArray.size = (Kds.cells _ p2).length + 1
          rw [← this]; simp
        · cases i with
          | zero =>
            injection hc with hc; subst hc
            obtain ⟨u, hu, hr⟩ := hv.2.1 0 _ rfl
            exact ⟨u, hu, takeCell_sound h1 hr⟩
          | succ i =>
            obtain ⟨y, hy, hr⟩ := ih.2.1 i c' hc
            exact ⟨y, by simpa using hy, hr⟩
    · cases h
theorem takeComp_sound {x : CK} {c : Comp} {p : x.Pay} {v : Value} (h : takeComp x c = some p) (hv : c.Rep κ w v) : (x.comp p).Rep κ w v := by
  unfold takeComp at h
  split at h
  · exact takeCell_sound h hv
  · rename_i ks cs
    obtain ⟨vs, rfl, hv⟩ := hv
    exact ⟨vs, rfl, by simpa using takeCells_sound ks cs p vs.toList h (by simpa using hv)⟩
  · cases h
theorem av_comp {x : AV} {y : Comp} {v : Value} (e : x = .c y) (h : x.Rep κ w v) : y.Rep κ w v := by subst e; exact h
theorem takeAll_sound (hR : Rel w0 κ st a w) : ∀ (l : List CK) (xs : List Operand) (p : Pays l), takeAll l (evs st xs) = some p → CompsRep κ w (compsOf l p) (xs.map a.eval)
  | [], [], p, h => ⟨rfl, fun i c hc => by cases hc⟩
  | [], x :: xs, p, h => by simp [takeAll, evs] at h
  | [x], [], p, h => by simp [takeAll, evs] at h
  | [x], y :: z :: r, p, h => by simp [takeAll, evs] at h
  | x :: y :: r, [], p, h => by simp [takeAll, evs] at h
  | [x], [y], p, h => by
    have hy := hR.ev y
    cases e : st.ev y with
    | tup vs => simp [takeAll, evs, e] at h
    | c z =>
      have h : takeComp x z = some p := by simpa [takeAll, evs, e] using h
      refine ⟨rfl, fun i c hc => ?_⟩
      cases i with
      | zero => injection hc with hc; subst hc; exact ⟨_, rfl, takeComp_sound h (av_comp e hy)⟩
      | succ i => cases hc
  | x :: y :: r, z :: zs, p, h => by
    have hz := hR.ev z
    cases e : st.ev z with
    | tup vs => simp [takeAll, evs, e] at h
    | c c0 =>
      have h : (match takeComp x c0, takeAll (y :: r) (evs st zs) with
        | some p, some q => some (p, q)
        | _, _ => none) = some p := by
        have h' : takeAll (x :: y :: r) (st.ev z :: evs st zs) = some p := h
        rw [e] at h'
        exact h'
      split at h
      · rename_i p1 p2 h1 h2
        injection h with h; subst h
        have ih := takeAll_sound hR (y :: r) zs p2 h2
        refine ⟨?_, fun i c hc => ?_⟩
        · have := ih.1
          show (zs.map a.eval).length + 1 = (compsOf (y :: r) p2).length + 1
          rw [this]
        · cases i with
          | zero => injection hc with hc; subst hc; exact ⟨_, rfl, takeComp_sound h1 (av_comp e hz)⟩
          | succ i => exact ih.2 i c hc
      · cases h
theorem comps_plain : ∀ (l : List CK) (p : Pays l) {κ' : Cx} (hS : κ'.S = κ.S) {vs : List Value} (h : CompsRep κ w (compsOf l p) vs), CompsRep κ' w (compsOf l p) vs := by
  intro l p κ' hS vs h
  have key : ∀ (l : List CK) (p : Pays l), ∀ c ∈ compsOf l p, ∀ v, c.Rep κ w v → c.Rep κ' w v := by
    intro l
    induction l with
    | nil => intro p c hc; cases hc
    | cons x l ih =>
      cases l with
      | nil =>
        intro p c hc v hv
        obtain rfl := List.mem_singleton.1 hc
        exact comp_plain x p hS hv
      | cons y r =>
        intro p c hc v hv
        rcases List.mem_cons.1 hc with rfl | hc
        · exact comp_plain x p.1 hS hv
        · exact ih p.2 c hc v hv
  exact ⟨h.1, fun i c hc => let ⟨u, hu, hr⟩ := h.2 i c hc; ⟨u, hu, key l p c (List.mem_of_getElem? hc) u hr⟩⟩
theorem comps_mem_plain : ∀ (l : List CK) (p : Pays l), ∀ c ∈ compsOf l p, ∃ (x : CK) (q : x.Pay), c = x.comp q
  | [], p, c, h => by cases h
  | [x], p, c, h => ⟨x, p, List.mem_singleton.1 h⟩
  | x :: y :: r, p, c, h => by
    rcases List.mem_cons.1 h with rfl | h
    · exact ⟨x, p.1, rfl⟩
    · exact comps_mem_plain (y :: r) p.2 c h
theorem resAV_plain (l : List CK) (r : Pays l) {κ' : Cx} (hS : κ'.S = κ.S) {v : Value} (h : (resAV l r).Rep κ w v) : (resAV l r).Rep κ' w v := by
  unfold resAV at *
  split at h
  · rename_i x hx
    obtain ⟨y, q, rfl⟩ := comps_mem_plain l r x (by rw [hx]; exact List.mem_singleton.2 rfl)
    exact comp_plain y q hS h
  · obtain ⟨vs, rfl, h1, h2⟩ := h
    refine ⟨vs, rfl, h1, fun i c hc => ?_⟩
    obtain ⟨u, hu, hr⟩ := h2 i c hc
    obtain ⟨y, q, rfl⟩ := comps_mem_plain l r c (List.mem_of_getElem? hc)
    exact ⟨u, hu, comp_plain y q hS hr⟩
theorem conOf_spec {f : FuncId} {c : Con} : ∀ {cons : List Con}, conOf f cons = some c → c ∈ cons ∧ c.f = f
  | [], h => by cases h
  | x :: r, h => by
    have h : (bif x.f.beq f then some x else conOf f r) = some c := h
    cases e : x.f.beq f
    · rw [e] at h
      obtain ⟨h1, h2⟩ := conOf_spec (cons := r) h
      exact ⟨List.mem_cons_of_mem _ h1, h2⟩
    · rw [e] at h
      injection h with h; subst h
      exact ⟨List.mem_cons_self, Nat.eq_of_beq_eq_true e⟩
theorem run_call (c : Con) (hc : c.Holds P) {o : Oper} {args : Array Operand} {ts : Array TypeId} (ho : o.op = .call { callee := .value (.func c.f), args, argTypes := ts }) (w : World) :
    (execOp a.eval o).run P w = .ok (.enter c.f (args.toList.map a.eval).toArray) w := by
  obtain ⟨⟨⟨fn, hf, hn, hb⟩, _⟩, _⟩ := hc
  have e : (args.map a.eval) = (args.toList.map a.eval).toArray := by rw [← Array.toList_map, Array.toArray_toList]
  have hn' : ¬ fn.name = "runtime.NumGoroutine" := by simpa using hn
  have hb' : ¬ fn.body = none := fun h => by rw [h] at hb; cases hb
  rw [← e]
  simp [execOp, ho, resolve, Act.eval, Deferred.ofValue, invoke, callFunc, hf, hn', hb']
end
end R
end Go.Proofs.YtldnfdghkdibmaaGreatDoor

/-
  append and slice literals: what they leave.
-/
set_option linter.unusedVariables false
namespace Go.Proofs.YtldnfdghkdibmaaGreatDoor
open Go.RowKit
namespace R
section
variable {w0 : Base} {w w' : World} {κ : Cx} {st : St} {a : Act} {P : Program}

theorem Kds.fld_lt : ∀ (fs : Kds) (x : fs.Pay) (f : Nat), f < fs.size → ∃ z, fs.fld x f = some z
  | .one k, x, 0, h => ⟨_, rfl⟩
  | .one k, x, f + 1, h => by simp [Kds.size] at h
  | .cons k ks, x, 0, h => ⟨_, rfl⟩
  | .cons k ks, x, f + 1, h => Kds.fld_lt ks x.2 f (by simpa [Kds.size] using h)
theorem Kds.fld_size : ∀ (fs : Kds) (x : fs.Pay) (f : Nat) z, fs.fld x f = some z → f < fs.size
  | .one k, x, 0, z, h => Nat.one_pos
  | .one k, x, f + 1, z, h => by cases h
  | .cons k ks, x, 0, z, h => Nat.succ_pos _
  | .cons k ks, x, f + 1, z, h => Nat.succ_lt_succ (Kds.fld_size ks x.2 f z h)

theorem run_append_none {e : TypeId} {t ty : TypeId} {i : TypeInfo} {size base : Nat} (ht : P.underlying t = some (.slice e)) (hi : P.info? e = some i) {v : Value} {n : Nat} {xs : List Value} (hown : w.ownsRow base e size v n xs) (c : Nat) :
    (Builtin.append_ #[t, t] ty #[v, .slice none 0 c]).run P w = .ok v w := by
  rcases hown.2 with ⟨rfl, rfl⟩ | ⟨g, cap, cur, rfl, _, _, hnc, _⟩
  · simp [Builtin.append_, run_underlying ht, sizeOf, typeInfo, hi, Builtin.lenOf, Builtin.firstCells]
  · simp [Builtin.append_, run_underlying ht, sizeOf, typeInfo, hi, Builtin.lenOf, Builtin.firstCells, hnc, storeCells]

/-- append to a row of the call's own: where the row lies behind it -/
theorem run_append_at {base : Nat} {t ty e : TypeId} {i : TypeInfo} {z : Value} (ht : P.underlying t = some (.slice e)) (hi : P.info? e = some i) (hz : i.zero = some z) (hzs : z.cells.size = i.size) (hsz : 0 < i.size)
    {v : Value} {n : Nat} {xs : List Value} (hown : w.ownsRow base e i.size v n xs) {ad : Addr} {m c : Nat} {news : List Value} (hl : news.length = m * i.size) (hnews : ∀ j u, news[j]? = some u → w.cell? (ad.add j) = some u) (h1 : ∀ u ∈ news, u.oneCell' = true)
    (h63 : n + m ≤ maxLen) (hbytes : (n + m) * i.bytes ≤ 140737488355328) (hbase : base ≤ w.heap.size) :
    ∃ v' w' row, (Builtin.append_ #[t, t] ty #[v, .slice (some ad) m c]).run P w = .ok v' w' ∧ w'.ownsRow base e i.size v' (n + m) (xs ++ news) ∧ w.grownBy w' row ∧
      (∀ g, row = some g → v.ownBlock = some g) ∧ ∀ g, v'.ownBlock = some g → (row = some g ∧ v.ownBlock = some g) ∨ w.heap.size ≤ g := by
  rcases hown.2 with ⟨rfl, rfl⟩ | ⟨g, cap, cur, rfl, hg1, hg2, hnc, hcm, hcs, hct⟩
  · -- nil
    have hx : xs = [] := by have := hown.1; simpa using this
    subst hx
    obtain ⟨v', w', hrun, ho, hgr, _⟩ := run_append_own (P := P) w w.heap.size t ty e i z i.size i.bytes ht hi hz rfl rfl hzs hsz (.slice none 0 0) 0 [] (World.ownsRow_nil _ _ _ _) ad m c news hl hnews h1 h63 hbytes (Nat.le_refl _)
    exact ⟨v', w', none, hrun, owns_mono ho hbase, hgr, (fun g h => nomatch h), fun g h => Or.inr (owns_block ho g h)⟩
  · by_cases hr : n + m ≤ cap
    · have hfit : n * i.size + news.length ≤ cur.size := by rw [hl, hcs, ← Nat.add_mul]; exact Nat.mul_le_mul_right _ hr
      have hrun := run_append_room (P := P) w t ty e i ht hi g n cap cur hg2 ad m c news hl hnews h1 hr hfit
      have hlen : xs.length = n * i.size := hown.1
      have htake : cur.toList.take (n * i.size) = xs := by rw [← hlen]; rw [hlen]; exact hct
      refine ⟨_, _, some g, hrun, ?_, ?_, fun g' h => by injection h with h; subst h; rfl, fun g' h => .inl ?_⟩
      · refine ⟨by rw [List.length_append, hlen, hl, Nat.add_mul], .inr ⟨g, cap, (cur.toList.take (n * i.size) ++ news ++ cur.toList.drop (n * i.size + news.length)).toArray, rfl, hg1, ?_, hr, hcm, ?_, ?_⟩⟩
        · simp only [World.setRow, Array.getElem?_modify]
          simp [hg2]
        · have : (cur.toList.take (n * i.size) ++ news ++ cur.toList.drop (n * i.size + news.length)).length = cur.size := by
            rw [List.length_append, List.length_append, List.length_take, List.length_drop, Array.length_toList]
            omega
          simpa [hcs] using this
        · rw [List.toList_toArray, htake]
          have : (n + m) * i.size = (xs ++ news).length := by rw [List.length_append, hlen, hl, Nat.add_mul]
          rw [this, List.take_left]
      · exact ⟨rfl, rfl, rfl, by simp, fun k hk hne => by
          simp only [World.setRow, Array.getElem?_modify]
          rw [if_neg (fun e => hne (by rw [e]))]⟩
      · have : g = g' := by simpa [Value.ownBlock] using h
        subst this; exact ⟨rfl, rfl⟩
    · have holds := World.ownsRow.cells hown (g := g) rfl
      obtain ⟨v', w', hrun, ho, hgr⟩ := run_append_arg_grows (P := P) w t ty e i z i.size i.bytes ht hi hz rfl rfl hzs hsz ⟨g, 0, none⟩ n cap xs hown.1 holds ad m c news hl hnews (by omega) h63 hbytes
      exact ⟨v', w', none, hrun, owns_mono ho hbase, hgr, (fun g h => nomatch h), fun g h => Or.inr (owns_block ho g h)⟩

/-- where a slice's cells lie, and what they read as -/
theorem src_cells {fs : Kds} {zs : List fs.Pay} {S : Nat → Prop} {v : Value} (h : (Kd.sl fs).Rep w S zs v) : (∃ c, v = .slice none 0 c ∧ zs = []) ∨ ∃ (ad : Addr) (c : Nat) (news : List Value), v = .slice (some ad) zs.length c ∧ news.length = zs.length * fs.size ∧ (∀ j u, news[j]? = some u → w.cell? (ad.add j) = some u) ∧ (∀ u ∈ news, u.oneCell' = true) ∧
    ∀ (i : Nat) (x : fs.Pay), zs[i]? = some x → ∀ (f : Nat) z, fs.fld x f = some z → ∃ u, news[i * fs.size + f]? = some u ∧ z.1.Rep w S z.2 u := by
  obtain ⟨A, c, rfl, hcap, hrow⟩ := h
  rcases Nat.eq_zero_or_pos (zs : List fs.Pay).length with h0 | hpos
  · have hz : zs = [] := List.length_eq_zero_iff.1 h0
    cases A with
    | none => exact .inl ⟨c, by rw [h0], hz⟩
    | some ad => refine .inr ⟨ad, c, [], rfl, by rw [h0]; simp, fun j u h => by simp at h, fun u h => by simp at h, fun i x h => by rw [hz] at h; simp at h⟩
  · obtain ⟨g, off, rfl, hg, hS, hc⟩ := hrow hpos
    let news := (List.range ((zs : List fs.Pay).length * fs.size)).map fun j => (w.cell? ⟨g, off + j, none⟩).getD Go.undef
    have hat : ∀ (i : Nat) (x : fs.Pay), zs[i]? = some x → ∀ (f : Nat) z, fs.fld x f = some z → ∃ u, w.cell? ⟨g, off + (i * fs.size + f), none⟩ = some u ∧ z.1.Rep w S z.2 u := fun i x hx f z hz => by
      obtain ⟨u, hu, hr⟩ := Kds.Rep.fld fs x g _ f z (hc i x hx) hz
      exact ⟨u, by rw [← Nat.add_assoc]; exact hu, hr⟩
    have hcell : ∀ j, j < (zs : List fs.Pay).length * fs.size → ∃ u, w.cell? ⟨g, off + j, none⟩ = some u ∧ u.oneCell' = true := fun j hj => by
      have hfs := Kds.size_pos fs
      have hi : j / fs.size < (zs : List fs.Pay).length := Nat.div_lt_of_lt_mul (by rw [Nat.mul_comm]; exact hj)
      obtain ⟨z, hz⟩ := Kds.fld_lt fs (zs : List fs.Pay)[j / fs.size] (j % fs.size) (Nat.mod_lt _ hfs)
      obtain ⟨u, hu, hr⟩ := hat (j / fs.size) _ (List.getElem?_eq_getElem hi) (j % fs.size) z hz
      rw [Nat.mul_comm, Nat.div_add_mod] at hu
      exact ⟨u, hu, Kd.Rep.solid hr⟩
    have hnews : ∀ j, j < (zs : List fs.Pay).length * fs.size → ∃ u, news[j]? = some u ∧ w.cell? ⟨g, off + j, none⟩ = some u ∧ u.oneCell' = true := fun j hj => by
      obtain ⟨u, hu, ho⟩ := hcell j hj
      refine ⟨u, ?_, hu, ho⟩
      show ((List.range _).map _)[j]? = _
      rw [List.getElem?_map, List.getElem?_range hj]
      show some ((w.cell? ⟨g, off + j, none⟩).getD Go.undef) = _
      rw [hu]; rfl
    have hlen : news.length = (zs : List fs.Pay).length * fs.size := by simp [news]
    refine .inr ⟨⟨g, off, none⟩, c, news, rfl, hlen, fun j u hj => ?_, fun u hu => ?_, fun i x hx f z hz => ?_⟩
    · have hlt : j < news.length := (List.getElem?_eq_some_iff.1 hj).1
      obtain ⟨u', h1, h2, _⟩ := hnews j (by rw [← hlen]; exact hlt)
      rw [hj] at h1; injection h1 with h1; subst h1
      rw [add_plain2]; exact h2
    · obtain ⟨j, hj, rfl⟩ := List.getElem_of_mem hu
      obtain ⟨u', h1, _, h3⟩ := hnews j (by rw [← hlen]; exact hj)
      rw [List.getElem?_eq_getElem hj] at h1; injection h1 with h1; rw [h1]; exact h3
    · obtain ⟨u, hu, hr⟩ := hat i x hx f z hz
      have hlt : i * fs.size + f < (zs : List fs.Pay).length * fs.size := by
        have h1 : i < (zs : List fs.Pay).length := (List.getElem?_eq_some_iff.1 hx).1
        have h2 := Kds.fld_size fs x f z hz
        calc i * fs.size + f < i * fs.size + fs.size := by omega
          _ = (i + 1) * fs.size := by rw [Nat.add_mul, Nat.one_mul]
          _ ≤ _ := Nat.mul_le_mul_right _ h1
      obtain ⟨u', h1, h2, _⟩ := hnews _ hlt
      rw [hu] at h2; injection h2 with h2; subst h2
      exact ⟨u, h1, hr⟩
theorem rowCells_append {fs : Kds} {xs ys : List fs.Pay} {c1 c2 : List Value} (hl : c1.length = xs.length * fs.size) (h1 : RowCells κ w fs xs c1) (h2 : RowCells κ w fs ys c2) : RowCells κ w fs (xs ++ ys) (c1 ++ c2) := by
  intro i x hx f z hz
  have hf := Kds.fld_size fs x f z hz
  rcases Nat.lt_or_ge i xs.length with h | h
  · rw [List.getElem?_append_left h] at hx
    obtain ⟨u, hu, hr⟩ := h1 i x hx f z hz
    refine ⟨u, ?_, hr⟩
    rw [List.getElem?_append_left]
    · exact hu
    · exact (List.getElem?_eq_some_iff.1 hu).1
  · rw [List.getElem?_append_right h] at hx
    obtain ⟨u, hu, hr⟩ := h2 _ x hx f z hz
    refine ⟨u, ?_, hr⟩
    have he : i * fs.size + f = c1.length + ((i - xs.length) * fs.size + f) := by
      rw [hl, ← Nat.add_assoc, ← Nat.add_mul]
      congr 2; omega
    rw [he, List.getElem?_append_right (by omega), Nat.add_sub_cancel_left]
    exact hu
theorem rowInfo_spec {e : TypeId} {size bytes : Nat} (h : rowInfo P e = some (size, bytes)) : ∃ i z, P.info? e = some i ∧ i.zero = some z ∧ z.cells.size = i.size ∧ 0 < i.size ∧ 0 < i.bytes ∧ i.size = size ∧ i.bytes = bytes ∧ z.cells.toList.all (·.oneCell') = true := by
  unfold rowInfo at h
  cases hi : P.info? e with
  | none => rw [hi] at h; cases h
  | some i =>
    rw [hi] at h
    dsimp only at h
    cases hz : i.zero with
    | none => rw [hz] at h; cases h
    | some z =>
      rw [hz] at h
      dsimp only at h
      cases hb : z.cells.size.beq i.size && Nat.blt 0 i.size && Nat.blt 0 i.bytes && z.cells.toList.all (·.oneCell')
      · rw [hb] at h; cases h
      · rw [hb] at h
        injection h with h; injection h with h1 h2
        simp only [Bool.and_eq_true] at hb
        obtain ⟨⟨⟨b1, b2⟩, b3⟩, b4⟩ := hb
        exact ⟨i, z, rfl, hz, Nat.eq_of_beq_eq_true b1, by rw [Nat.blt_eq] at b2; exact b2, by rw [Nat.blt_eq] at b3; exact b3, h1, h2, b4⟩
/-- what is appended: its cells -/
theorem srcOf_cells (hR : Rel w0 κ st a w) {e : TypeId} {A : AV} {z : Row} (h : srcOf st e A = some z) {v : Value} (hv : A.Rep κ w v) : (∃ c, v = .slice none 0 c ∧ z.xs = []) ∨ ∃ (ad : Addr) (c : Nat) (news : List Value), v = .slice (some ad) z.xs.length c ∧ news.length = z.xs.length * z.fs.size ∧
    (∀ j u, news[j]? = some u → w.cell? (ad.add j) = some u) ∧ (∀ u ∈ news, u.oneCell' = true) ∧ RowCells κ w z.fs z.xs news := by
  unfold srcOf at h
  split at h
  · rename_i r
    obtain ⟨rfl, _⟩ := hv
    obtain ⟨cells, ho, hc, _⟩ := hR.row r z h
    rcases ho.2 with ⟨hv, h0⟩ | ⟨g, cap, cur, hv, h2, h3, h4⟩
    · exact .inl ⟨0, hv, List.length_eq_zero_iff.1 h0⟩
    · have hcell := World.ownsRow.cells ho (g := g) (by rw [hv]; rfl)
      refine .inr ⟨⟨g, 0, none⟩, cap, cells, hv, ho.1, hcell, fun u hu => ?_, hc⟩
      obtain ⟨j, hj, rfl⟩ := List.getElem_of_mem hu
      have hj' : j < z.xs.length * z.fs.size := by rw [← ho.1]; exact hj
      have hfs := Kds.size_pos z.fs
      have hi : j / z.fs.size < z.xs.length := Nat.div_lt_of_lt_mul (by rw [Nat.mul_comm]; exact hj')
      obtain ⟨y, hy⟩ := Kds.fld_lt z.fs z.xs[j / z.fs.size] (j % z.fs.size) (Nat.mod_lt _ hfs)
      obtain ⟨u, hu2, hr⟩ := hc (j / z.fs.size) _ (List.getElem?_eq_getElem hi) (j % z.fs.size) y hy
      rw [Nat.mul_comm, Nat.div_add_mod, List.getElem?_eq_getElem hj] at hu2
      injection hu2 with hu2
      rw [hu2]; exact Kd.Rep.solid hr
  · injection h with h; subst h
    rcases src_cells (S := κ.S) hv with h | ⟨ad, c, news, h1, h2, h3, h4, h5⟩
    · exact .inl h
    · exact .inr ⟨ad, c, news, h1, h2, h3, h4, h5⟩
  · cases h
theorem owns_solid {base : Nat} {e : TypeId} {size n : Nat} {v : Value} {xs : List Value} (ho : w.ownsRow base e size v n xs) : v.oneCell' = true := by
  obtain ⟨A, c, rfl⟩ := owns_slice ho
  rfl
/-- behind an append: the row anew, its value in the slot -/
theorem append_done (hR : Rel w0 κ st a w) {r d : Nat} (hd : d < st.n) {v' : Value} {x : Row} {cells : List Value} {row : Option Nat} (hg : w.grownBy w' row) (hrow : ∀ g, row = some g → (κ.ρ r).ownBlock = some g ∧ (st.row r).isSome = true)
    (hown : w'.ownsRow w0.n0 x.e x.fs.size v' x.xs.length cells) (hcells : RowCells κ w x.fs x.xs cells)
    (hnew : ∀ g, v'.ownBlock = some g → (row = some g ∧ (κ.ρ r).ownBlock = some g) ∨ w.heap.size ≤ g) :
    ∃ κ', Rel w0 κ' ((st.setRow r x).set d (.c (.one (.own r)))) (a.put (some d) v') w' := by
  have h := hR.setRow hg hrow hown hcells hnew
  refine ⟨_, h.set hd (v := .c (.one (.own r))) ?_⟩
  show v' = (if r = r then v' else κ.ρ r) ∧ _
  rw [if_pos rfl]
  exact ⟨rfl, owns_solid hown⟩
theorem grownBy_refl (w : World) (row : Option Nat) : w.grownBy w row := ⟨rfl, rfl, rfl, Nat.le_refl _, fun _ _ _ => rfl⟩

theorem cells_fld : ∀ (fs : Kds) (x : fs.Pay) (f : Nat) z, fs.fld x f = some z → (fs.cells x)[f]? = some (.val z.1 z.2)
  | .one k, x, 0, z, h => by injection h with h; subst h; rfl
  | .one k, x, f + 1, z, h => by cases h
  | .cons k ks, x, 0, z, h => by injection h with h; subst h; rfl
  | .cons k ks, x, f + 1, z, h => cells_fld ks x.2 f z h
theorem cells_len : ∀ (fs : Kds) (x : fs.Pay), (fs.cells x).length = fs.size
  | .one k, x => rfl
  | .cons k ks, x => congrArg (· + 1) (cells_len ks x.2)
theorem rowsFrom_sound {fs : Kds} : ∀ (n : Nat) (l : List Cell) (xs : List fs.Pay) (us : List Value), rowsFrom fs n l = some xs → CellsRep κ w l us.toArray → xs.length = n ∧ us.length = n * fs.size ∧ RowCells κ w fs xs us
  | 0, [], xs, us, h, hu => by
    injection h with h; subst h
    have : us = [] := by have := hu.1; simpa using this
    subst this
    exact ⟨rfl, by simp, fun i x hx => by cases hx⟩
  | 0, _ :: _, xs, us, h, hu => by cases h
  | n + 1, l, xs, us, h, hu => by
    have h : (match takeCells fs (l.take fs.size), rowsFrom fs n (l.drop fs.size) with
      | some x, some xs => some (x :: xs)
      | _, _ => none) = some xs := h
    split at h
    · rename_i x ys h1 h2
      injection h with h; subst h
      have hlen : us.length = l.length := hu.1
      have hc1 : CellsRep κ w (l.take fs.size) (us.take fs.size).toArray := by
        refine ⟨by simp [hlen], fun i c hc => ?_, fun i v hv => ?_⟩
        · rw [List.getElem?_take] at hc
          split at hc
          · rename_i hi
            obtain ⟨v, hv, hr⟩ := hu.2.1 i c hc
            exact ⟨v, by rw [List.getElem?_toArray, List.getElem?_take, if_pos hi]; simpa using hv, hr⟩
          · cases hc
        · rw [List.getElem?_toArray, List.getElem?_take] at hv
          split at hv
          · exact hu.2.2 i v (by simpa using hv)
          · cases hv
      have hc2 : CellsRep κ w (l.drop fs.size) (us.drop fs.size).toArray := ⟨by simp [hlen], fun i c hc => by
        rw [List.getElem?_drop] at hc
        obtain ⟨v, hv, hr⟩ := hu.2.1 _ c hc
        exact ⟨v, by rw [List.getElem?_toArray, List.getElem?_drop]; simpa using hv, hr⟩, fun i v hv => by
        rw [List.getElem?_toArray, List.getElem?_drop] at hv
        exact hu.2.2 _ v (by simpa using hv)⟩
      have hx := takeCells_sound fs _ x _ h1 hc1
      obtain ⟨e1, e2, e3⟩ := rowsFrom_sound n _ ys _ h2 hc2
      have hxl : (us.take fs.size).length = fs.size := by
        have := hx.1
        rw [cells_len] at this
        simpa using this
      have hge : fs.size ≤ us.length := by rw [List.length_take] at hxl; omega
      refine ⟨by simp [e1], ?_, fun i y hy f z hz => ?_⟩
      · rw [List.length_drop] at e2
        rw [Nat.add_mul, Nat.one_mul]; omega
      · cases i with
        | zero =>
          injection hy with hy; subst hy
          obtain ⟨u, hu', hr⟩ := hx.2.1 f _ (cells_fld fs x f z hz)
          refine ⟨u, ?_, hr⟩
          rw [List.getElem?_toArray, List.getElem?_take] at hu'
          split at hu'
          · rw [Nat.zero_mul, Nat.zero_add]; exact hu'
          · cases hu'
        | succ i =>
          obtain ⟨u, hu', hr⟩ := e3 i y hy f z hz
          refine ⟨u, ?_, hr⟩
          rw [List.getElem?_drop] at hu'
          rw [Nat.add_mul, Nat.one_mul, show i * fs.size + fs.size + f = fs.size + (i * fs.size + f) by omega]
          exact hu'
    · cases h
/-- a slice literal -/
theorem run_buildSlice {t e : TypeId} {len size bytes : Nat} (ht : P.underlying t = some (.slice e)) (hinfo : rowInfo P e = some (size, bytes)) (hR : Rel w0 κ st a w) {parts : Array (Nat × Operand)} {l : List Cell}
    (hl : buildParts st ((List.range len).map fun i => (i * size, size)) (List.replicate (len * size) .any) parts.toList = some l) (hsm : len * size ≤ 16777216) :
    ∃ us : Array Value, (Instr.buildSlice t len (parts.map fun (i, x) => (i, a.eval x))).run P w = .ok (.slice (some ⟨w.heap.size, 0, none⟩) len len) (w.alloc (.cells us e)) ∧ CellsRep κ w l us := by
  obtain ⟨i, z, hi, hz, hzs, hsz, hby, rfl, rfl, hone⟩ := rowInfo_spec hinfo
  let zero : Array Value := if len * i.size = 0 then #[] else z.cells
  let base : Array Value := (Array.range (len * i.size)).map fun k => zero[k % zero.size]!
  have hbase : CellsRep κ w (List.replicate (len * i.size) .any) base := by
    refine ⟨by simp [base], fun k c hc => ?_, fun k v hv => ?_⟩
    · obtain ⟨hk, rfl⟩ := List.getElem?_eq_some_iff.1 hc
      rw [List.length_replicate] at hk
      refine ⟨zero[k % zero.size]!, ?_, ?_⟩
      · simp [base, hk]
      · rw [List.getElem_replicate]; trivial
    · have hk : k < len * i.size := by
        have := (Array.getElem?_eq_some_iff.1 hv).1
        simpa [base] using this
      have hv' : v = zero[k % zero.size]! := by
        have : base[k]? = some (zero[k % zero.size]!) := by simp [base, hk]
        rw [this] at hv; injection hv with hv; exact hv.symm
      have hzero : zero = z.cells := if_neg (by omega)
      have hlt : k % zero.size < zero.size := Nat.mod_lt _ (by rw [hzero, hzs]; exact hsz)
      rw [hv', getElem!_pos zero _ hlt]
      refine List.all_eq_true.1 hone _ ?_
      have := Array.getElem_mem hlt
      rw [← hzero]
      exact Array.mem_toList_iff.2 this
  obtain ⟨us, hfill, hus⟩ := buildParts_sound hR _ (fun k => some (k * i.size, i.size)) (fun k q hq => by
    rw [List.getElem?_map] at hq
    cases hk : (List.range len)[k]? with
    | none => rw [hk] at hq; cases hq
    | some j =>
      rw [hk] at hq
      have : j = k := by
        have := (List.getElem?_eq_some_iff.1 hk).2
        rw [← this, List.getElem_range]
      subst this
      exact hq) parts.toList _ l base hl hbase
  refine ⟨us, ?_, hus⟩
  have hfill' : Instr.fill (fun k => some (k * i.size, i.size)) base (parts.map fun (i, x) => (i, a.eval x)).toList = some us := by
    rw [← hfill]; congr 1; simp
  have hsize : (Go.sizeOf e).run P w = .ok i.size w := by simp [Go.sizeOf, typeInfo, hi]
  have hzv : (zeroValue e).run P w = .ok z w := by simp [zeroValue, typeInfo, hi, hz]
  have hn : ¬ len * i.size > 2 ^ 24 := by omega
  have hfill2 : ∀ zz : Array Value, zero = zz → Instr.fill (fun k => some (k * i.size, i.size)) ((Array.range (len * i.size)).map fun x => zz[x % zz.size]!) (parts.map fun x => (x.fst, a.eval x.snd)).toList = some us := fun zz hzz => by
    subst hzz; exact hfill'
  unfold Instr.buildSlice
  simp only [Sem.run_bind, run_underlying ht, Result.andThen_ok, hsize, if_neg hn]
  by_cases h0 : len * i.size = 0
  · rw [if_pos h0]
    simp only [Sem.run_bind, Sem.run_pure, Result.andThen_ok]
    rw [hfill2 #[] (if_pos h0)]
    simp [newRow]
  · rw [if_neg h0]
    simp only [Sem.run_bind, Sem.run_pure, Result.andThen_ok, hzv]
    rw [hfill2 z.cells (if_neg h0)]
    simp [newRow]
/-- a field written -/
theorem setFld_spec {c : Cell} {v : Value} (hv : c.Rep κ w v) : ∀ (fs : Kds) (x x' : fs.Pay) (f : Nat), fs.setFld x f c = some x' → f < fs.size ∧ (∃ z, fs.fld x' f = some z ∧ z.1.Rep w κ.S z.2 v) ∧ ∀ f', f' ≠ f → fs.fld x' f' = fs.fld x f'
  | .one k, x, x', 0, h => by
    have h : takeCell k c = some x' := h
    exact ⟨Nat.one_pos, ⟨⟨k, x'⟩, rfl, takeCell_sound h hv⟩, fun f' hf => by cases f' with | zero => exact absurd rfl hf | succ f' => rfl⟩
  | .one k, x, x', f + 1, h => by cases h
  | .cons k ks, x, x', 0, h => by
    have h : (match takeCell k c with | some y => some (y, x.2) | none => none) = some x' := h
    split at h
    · rename_i y hy
      injection h with h; subst h
      exact ⟨Nat.succ_pos _, ⟨⟨k, y⟩, rfl, takeCell_sound hy hv⟩, fun f' hf => by cases f' with | zero => exact absurd rfl hf | succ f' => rfl⟩
    · cases h
  | .cons k ks, x, x', f + 1, h => by
    have h : (match ks.setFld x.2 f c with | some y => some (x.1, y) | none => none) = some x' := h
    split at h
    · rename_i y hy
      injection h with h; subst h
      obtain ⟨h1, h2, h3⟩ := setFld_spec hv ks x.2 y f hy
      refine ⟨Nat.succ_lt_succ h1, h2, fun f' hf => ?_⟩
      cases f' with
      | zero => rfl
      | succ f' => exact h3 f' (fun e => hf (by rw [e]))
    · cases h
theorem fld_lt' : ∀ (fs : Kds) (x : fs.Pay) (f : Nat) z, fs.fld x f = some z → f < fs.size := Kds.fld_size
theorem rowCells_set {fs : Kds} {xs : List fs.Pay} {cells : List Value} {i f : Nat} {x x' : fs.Pay} {c : Cell} {v : Value} (h : RowCells κ w fs xs cells) (hlen : cells.length = xs.length * fs.size) (hi : xs[i]? = some x) (hs : fs.setFld x f c = some x') (hv : c.Rep κ w v) :
    RowCells κ w fs (xs.set i x') (cells.set (i * fs.size + f) v) := by
  obtain ⟨hf, ⟨z0, hz0, hr0⟩, hoth⟩ := setFld_spec hv fs x x' f hs
  have hil : i < xs.length := (List.getElem?_eq_some_iff.1 hi).1
  have hpos := Kds.size_pos fs
  have hle : i * fs.size + f < cells.length := by
    rw [hlen]
    have : (i + 1) * fs.size ≤ xs.length * fs.size := Nat.mul_le_mul_right _ hil
    rw [Nat.add_mul, Nat.one_mul] at this
    omega
  intro j y hy f' z hz
  have hf' := Kds.fld_size fs y f' z hz
  rw [List.getElem?_set] at hy
  by_cases e : i = j
  · subst e
    rw [if_pos rfl, if_pos hil] at hy
    injection hy with hy; subst hy
    by_cases ef : f' = f
    · subst ef
      rw [hz0] at hz; injection hz with hz; subst hz
      exact ⟨v, by rw [List.getElem?_set, if_pos rfl, if_pos hle], hr0⟩
    · rw [hoth f' ef] at hz
      obtain ⟨u, hu, hr⟩ := h i x hi f' z hz
      exact ⟨u, by rw [List.getElem?_set, if_neg (by omega)]; exact hu, hr⟩
  · rw [if_neg e] at hy
    obtain ⟨u, hu, hr⟩ := h j y hy f' z hz
    refine ⟨u, ?_, hr⟩
    rw [List.getElem?_set, if_neg (fun e2 => e ?_)]
    · exact hu
    · have e3 := congrArg (· / fs.size) e2
      have q : ∀ a b : Nat, b < fs.size → (a * fs.size + b) / fs.size = a := fun a b hb => by
        rw [Nat.add_comm, Nat.add_mul_div_right _ _ hpos, Nat.div_eq_of_lt hb, Nat.zero_add]
      have e4 : (i * fs.size + f) / fs.size = (j * fs.size + f') / fs.size := e3
      rwa [q i f hf, q j f' hf'] at e4
theorem rowCells_sets {fs : Kds} {i : Nat} : ∀ (l : List Cell) (vs : List Value) (k f : Nat) (xs : List fs.Pay) (cells : List Value) (x x' : fs.Pay), RowCells κ w fs xs cells → cells.length = xs.length * fs.size → xs[i]? = some x → fs.setFlds x (f + k) l = some x' → CellsRep κ w l vs.toArray →
    RowCells κ w fs (xs.set i x') ((vs.zipIdx k).foldl (fun cs (c, j) => cs.set (i * fs.size + f + j) c) cells)
  | [], vs, k, f, xs, cells, x, x', h, hlen, hi, hs, hv => by
    obtain rfl : vs = [] := by have := hv.1; simpa using this
    injection hs with hs; subst hs
    have : xs.set i x = xs := by
      refine List.ext_getElem? fun j => ?_
      rw [List.getElem?_set]
      by_cases e : i = j
      · subst e
        rw [if_pos rfl, if_pos (List.getElem?_eq_some_iff.1 hi).1, hi]
      · rw [if_neg e]
    rw [this]; exact h
  | c :: l, vs, k, f, xs, cells, x, x', h, hlen, hi, hs, hv => by
    cases vs with
    | nil => have := hv.1; simp at this
    | cons v vs =>
      have hs : (match fs.setFld x (f + k) c with | some q => fs.setFlds q (f + k + 1) l | none => none) = some x' := hs
      split at hs
      · rename_i q hq
        have hcv : c.Rep κ w v := by
          obtain ⟨y, hy, hr⟩ := hv.2.1 0 c rfl
          injection hy with hy; subst hy; exact hr
        have hv' : CellsRep κ w l vs.toArray := ⟨by have := hv.1; simpa using this, fun i c hc => by
          obtain ⟨y, hy, hr⟩ := hv.2.1 (i + 1) c hc
          exact ⟨y, by simpa using hy, hr⟩, fun i y hy => hv.2.2 (i + 1) y (by simpa using hy)⟩
        have h1 := rowCells_set h hlen hi hq hcv
        have hil := (List.getElem?_eq_some_iff.1 hi).1
        have h2 := rowCells_sets l vs (k + 1) f (xs.set i q) (cells.set (i * fs.size + (f + k)) v) q x' h1 (by rw [List.length_set, List.length_set]; exact hlen) (by rw [List.getElem?_set, if_pos rfl, if_pos hil]) hs hv'
        rw [List.set_set] at h2
        rw [← Nat.add_assoc] at h2
        rw [List.zipIdx_cons, List.foldl_cons]
        exact h2
      · cases hs
theorem foldl_take (off m : Nat) : ∀ (vs : List (Value × Nat)) (us : Array Value) (xs : List Value), us.toList.take m = xs → (vs.foldl (fun cs (c, j) => cs.setIfInBounds (off + j) c) us).toList.take m = vs.foldl (fun cs (c, j) => cs.set (off + j) c) xs
  | [], us, xs, h => h
  | (v, j) :: r, us, xs, h => by
    rw [List.foldl_cons, List.foldl_cons]
    refine foldl_take off m r _ _ ?_
    rw [Array.toList_setIfInBounds, ← h, List.take_set]
theorem foldl_size (off : Nat) : ∀ (vs : List (Value × Nat)) (us : Array Value), (vs.foldl (fun cs (c, j) => cs.setIfInBounds (off + j) c) us).size = us.size
  | [], us => rfl
  | (v, j) :: r, us => by rw [List.foldl_cons, foldl_size off r]; exact Array.size_setIfInBounds
theorem foldl_len (off : Nat) : ∀ (vs : List (Value × Nat)) (xs : List Value), (vs.foldl (fun cs (c, j) => cs.set (off + j) c) xs).length = xs.length
  | [], xs => rfl
  | (v, j) :: r, xs => by rw [List.foldl_cons, foldl_len off r]; exact List.length_set
theorem setFld_lt {c : Cell} : ∀ (fs : Kds) (x x' : fs.Pay) (f : Nat), fs.setFld x f c = some x' → f < fs.size
  | .one k, x, x', 0, h => Nat.one_pos
  | .one k, x, x', f + 1, h => by cases h
  | .cons k ks, x, x', 0, h => Nat.succ_pos _
  | .cons k ks, x, x', f + 1, h => by
    have h : (match ks.setFld x.2 f c with | some y => some (x.1, y) | none => none) = some x' := h
    split at h
    · rename_i y hy
      exact Nat.succ_lt_succ (setFld_lt ks x.2 y f hy)
    · cases h
theorem setFlds_le {fs : Kds} : ∀ (l : List Cell) (x x' : fs.Pay) (f : Nat), fs.setFlds x f l = some x' → 0 < l.length → f + l.length ≤ fs.size
  | [], _, _, _, _, h => absurd h (Nat.lt_irrefl _)
  | c :: l, x, x', f, h, _ => by
    have h : (match fs.setFld x f c with | some q => fs.setFlds q (f + 1) l | none => none) = some x' := h
    split at h
    · rename_i q hq
      have hlt : f < fs.size := setFld_lt fs x q f hq
      rw [List.length_cons]
      rcases Nat.eq_zero_or_pos l.length with e | e
      · omega
      · have := setFlds_le l q x' (f + 1) h e
        omega
    · cases h
/-- an element of a row is written -/
theorem store_row {base : Nat} {r i f sz : Nat} {g m cap : Nat} {z : Row} {cells : List Value} {l : List Cell} {y : Value} {x' : z.fs.Pay} {st : St} (hbound : ∀ g, κ.S g → g < w.heap.size) (hρ : κ.ρ r = .slice (some ⟨g, 0, none⟩) m cap) (him : i < m)
    (hown : w.ownsRow base z.e z.fs.size (κ.ρ r) z.xs.length cells) (hcells : RowCells κ w z.fs z.xs cells) (hnn : ∀ g, (κ.ρ r).ownBlock = some g → ¬ κ.S g ∧ ∀ b cs, st.box b = some cs → κ.β b ≠ g)
    (hset : z.fs.setFlds (z.xs.getD i z.fs.dflt) f l = some x') (hy : CellsRep κ w l y.cells) (hsz : sz = z.fs.size) :
    ∃ w', (Go.storeCells ⟨g, i * sz + f, none⟩ y.cells.toList 0).run P w = .ok () w' ∧ Only g w w' ∧ w'.ownsRow base z.e z.fs.size (κ.ρ r) (z.xs.set i x').length ((y.cells.toList.zipIdx 0).foldl (fun cs (c, j) => cs.set (i * z.fs.size + f + j) c) cells) ∧
      RowCells κ w z.fs (z.xs.set i x') ((y.cells.toList.zipIdx 0).foldl (fun cs (c, j) => cs.set (i * z.fs.size + f + j) c) cells) ∧ i < z.xs.length := by
  subst hsz
  rw [hρ] at hown
  obtain ⟨hcl, ho⟩ := hown
  rcases ho with ⟨h0, _⟩ | ⟨g', cap', cur, hv, hb, hg, hnc, hcm, hcs, htake⟩
  · cases h0
  · injection hv with e1 e2 e3
    injection e1 with e1; injection e1 with e1; subst e1; subst e3
    have hil : i < z.xs.length := by rw [← e2]; exact him
    have hx : z.xs[i]? = some (z.xs.getD i z.fs.dflt) := by rw [List.getD_eq_getElem?_getD, List.getElem?_eq_getElem hil, Option.getD_some]
    have hlen : y.cells.toList.length = l.length := by rw [Array.length_toList]; exact hy.1
    have hmul : (i + 1) * z.fs.size ≤ z.xs.length * z.fs.size := Nat.mul_le_mul_right _ hil
    rw [Nat.add_mul, Nat.one_mul] at hmul
    have hmul2 : z.xs.length * z.fs.size ≤ cap * z.fs.size := Nat.mul_le_mul_right _ hnc
    obtain ⟨w', h1, h2, h3⟩ := run_storeCells (P := P) y.cells.toList (i * z.fs.size + f) 0 cur w hg (fun v hv => by
      obtain ⟨j, hj, rfl⟩ := List.getElem_of_mem hv
      exact hy.2.2 j _ (by rw [← Array.getElem?_toList]; exact List.getElem?_eq_getElem hj)) (fun h0 => by
      rw [hlen] at h0 ⊢
      have := setFlds_le l _ x' f hset h0
      rw [hcs]; omega)
    refine ⟨w', h1, h2, ?_, ?_, hil⟩
    · rw [hρ, List.length_set]
      refine ⟨by rw [foldl_len]; exact hcl, .inr ⟨g, cap, _, by rw [e2], hb, h3, hnc, hcm, by rw [foldl_size]; exact hcs, foldl_take _ _ _ _ _ htake⟩⟩
    · exact rowCells_sets l y.cells.toList 0 f z.xs cells _ x' hcells hcl hx (by simpa using hset) (by simpa using hy)
/-- the world with one row's element written -/
theorem Rel.storeRow (h : Rel w0 κ st a w) {r : Nat} {x y : Row} (hx : st.row r = some x) {g : Nat} (hg : (κ.ρ r).ownBlock = some g) (ho : Only g w w') {cells : List Value} (hown : w'.ownsRow w0.n0 y.e y.fs.size (κ.ρ r) y.xs.length cells) (hcells : RowCells κ w y.fs y.xs cells) :
    Rel w0 κ (st.putRow r y) a w' := by
  obtain ⟨cs0, hown0, _, hn0⟩ := h.row r x hx
  have hS := (hn0 g hg).1
  have hge := owns_block hown0 g hg
  have hkeep : Keeps w w' κ.S := ho.keeps hS
  have H : ∀ (c : Cell) v, c.Rep κ w v → c.Rep κ w' v := fun c v hr => hr.keeps rfl rfl rfl hkeep (fun g hg _ => hg)
  have hrows : ∀ k z, (st.putRow r y).row k = some z → (k = r ∧ z = y) ∨ (k ≠ r ∧ st.row k = some z) := fun k z hz => by
    have hz : look? k ((r, y) :: dropKey r st.rows) = some z := hz
    rw [look?_cons, look?_dropKey] at hz
    by_cases e : r = k
    · rw [if_pos e] at hz; injection hz with hz; exact .inl ⟨e.symm, hz.symm⟩
    · rw [if_neg e, if_neg (fun h => e h.symm)] at hz; exact .inr ⟨fun h => e h.symm, hz⟩
  exact {
    defers := h.defers
    size := h.size
    env := fun t => AV.Rep.mono H (h.env t)
    box := fun b bs hb => by
      obtain ⟨us, ty, hblk, hr, h1, h2⟩ := h.box b bs hb
      exact ⟨us, ty, ho.blk (fun e => (hn0 g hg).2 b bs hb e) hblk, hr.mono H, h1, h2⟩
    apart := h.apart
    row := fun k z hz => by
      rcases hrows k z hz with ⟨rfl, rfl⟩ | ⟨hne, hz⟩
      · exact ⟨cells, hown, hcells.keeps hkeep (fun g hg _ => hg), hn0⟩
      · obtain ⟨cs, ho2, hc, hn⟩ := h.row k z hz
        exact ⟨cs, ho.owns ho2 (fun e => hne (h.rows k r z x hz hx g e hg)), hc.keeps hkeep (fun g hg _ => hg), hn⟩
    rows := fun k k' z z' hz hz' g' hk hk' => by
      have q : ∀ k z, (st.putRow r y).row k = some z → ∃ z0, st.row k = some z0 := fun k z hz => by
        rcases hrows k z hz with ⟨rfl, _⟩ | ⟨_, hz⟩
        · exact ⟨x, hx⟩
        · exact ⟨z, hz⟩
      obtain ⟨z0, hz0⟩ := q k z hz
      obtain ⟨z1, hz1⟩ := q k' z' hz'
      exact h.rows k k' z0 z1 hz0 hz1 g' hk hk'
    bound := fun g hg => by rw [ho.size]; exact h.bound g hg
    below := ho.belowX h.below (.inl hge)
    old := h.old
    ext := h.ext.move (g := id) (fun c v hr => AV.Rep.mono H hr) (fun t => rfl) ⟨rfl, rfl, rfl⟩ rfl (fun k p v hr => H (.val k p) v hr) (fun g1 o ho' hh => (ho.block g1 (fun e => owns_cells hown0 g hg o ho' (by rw [← e]; exact hh))).trans hh) }
/-- the cells of a slice made -/
theorem made_cells {e : TypeId} {i : TypeInfo} {zero : Value} {fs : Kds} {zc : List Cell} {z : fs.Pay} {n : Nat} (hz : zeroCells P e = some zc) (hi : P.info? e = some i) (hz0 : i.zero = some zero) (hzr : takeCells fs zc = some z) (hsz : zero.cells.size = fs.size) :
    RowCells κ w fs (List.replicate n z) (madeCells zero.cells (n * fs.size)).toList := by
  obtain ⟨it, z2, hit, hz2, hcs⟩ := zeroCells_sound (κ := κ) (w := w) hz
  rw [hi] at hit; injection hit with hit; subst hit
  rw [hz0] at hz2; injection hz2 with hz2; subst hz2
  have hx := takeCells_sound fs zc z zero.cells.toList hzr (by simpa using hcs)
  intro j x hj f q hq
  have hjl := (List.getElem?_eq_some_iff.1 hj).1
  rw [List.length_replicate] at hjl
  have : x = z := by
    have := (List.getElem?_eq_some_iff.1 hj).2
    rw [List.getElem_replicate] at this; exact this.symm
  subst this
  have hf := Kds.fld_size fs x f q hq
  obtain ⟨u, hu, hr⟩ := hx.2.1 f _ (cells_fld fs x f q hq)
  refine ⟨u, ?_, hr⟩
  have hlt : j * fs.size + f < n * fs.size := by
    have : (j + 1) * fs.size ≤ n * fs.size := Nat.mul_le_mul_right _ hjl
    rw [Nat.add_mul, Nat.one_mul] at this
    omega
  have hmod : (j * fs.size + f) % fs.size = f := by
    rw [Nat.add_comm, Nat.add_mul_mod_self_right, Nat.mod_eq_of_lt hf]
  have hu' : zero.cells[f]? = some u := by simpa using hu
  unfold madeCells
  rw [Array.getElem?_toList, Array.getElem?_map, Array.getElem?_range, if_pos hlt, Option.map_some, hsz, hmod, getElem!_pos zero.cells f (by rw [hsz]; exact hf)]
  rw [← hu', Array.getElem?_eq_getElem]
end
end R
end Go.Proofs.YtldnfdghkdibmaaGreatDoor

/-
  A map of maps, iterators over maps: what is known behind their operations.
-/
set_option linter.unusedVariables false
namespace Go.Proofs.YtldnfdghkdibmaaGreatDoor
open Go.RowKit
namespace R
section
variable {w0 : Base} {w w' : World} {κ : Cx} {st : St} {a : Act} {P : Program}

/-- the world with another object in a block of a map or an iterator -/
abbrev setB (w : World) (g : Nat) (o : Obj) : World := Go.ChangeMaps.setBlock w g o
theorem setB_other {g k : Nat} {o : Obj} (h : k ≠ g) : (setB w g o).heap[k]? = w.heap[k]? := by
  show (w.heap.setIfInBounds g _)[k]? = _
  rw [Array.getElem?_setIfInBounds_ne (Ne.symm h)]
theorem setB_self {g : Nat} {o : Obj} (h : g < w.heap.size) : (setB w g o).heap[g]? = some o := by
  show (w.heap.setIfInBounds g _)[g]? = _
  rw [Array.getElem?_setIfInBounds_self_of_lt h]
theorem setB_size (g : Nat) (o : Obj) : (setB w g o).heap.size = w.heap.size := by
  show (w.heap.setIfInBounds g _).size = _
  rw [Array.size_setIfInBounds]
theorem lt_of_some {g : Nat} {o : Obj} (h : w.heap[g]? = some o) : g < w.heap.size := (Array.getElem?_eq_some_iff.1 h).1
theorem noCell {g : Nat} {o : Obj} (hm : o.mapLike = true) (h : w.heap[g]? = some o) (i : Nat) : w.cell? ⟨g, i, none⟩ = none := by
  unfold World.cell?
  rw [h]
  cases o <;> first | rfl | cases hm
theorem setB_keeps {g : Nat} {o o' : Obj} (hm : o.mapLike = true) (hm' : o'.mapLike = true) (h : w.heap[g]? = some o) (S : Nat → Prop) : Keeps w (setB w g o') S :=
  ⟨Nat.le_of_eq (setB_size g o').symm, fun k i _ _ => by
    by_cases e : k = g
    · subst e
      rw [noCell hm h i, noCell hm' (setB_self (lt_of_some h)) i]
    · exact World.cell?_of_block (setB_other e)⟩
theorem setB_grown {g : Nat} {o : Obj} : w.grownBy (setB w g o) (some g) := ⟨rfl, rfl, rfl, Nat.le_of_eq (setB_size g o).symm, fun k _ hk => setB_other (fun e => hk (by rw [e]))⟩

/-- what writes blocks of maps and iterators alone, or makes one -/
theorem Rel.mapWrite {κ' : Cx} {st' : St} (h : Rel w0 κ st a w) (hβ : κ'.β = κ.β) (hρ : κ'.ρ = κ.ρ) (hS : κ'.S = κ.S) {row : Option Nat} (hgr : w.grownBy w' row) (hrow : ∀ k, row = some k → w0.n0 ≤ k ∧ ∃ o : Obj, o.mapLike = true ∧ w.heap[k]? = some o) (hkeep : Keeps w w' κ.S)
    (hn : st'.n = st.n) (hrows : st'.rows = st.rows) (henv : ∀ t v, (st.get t).Rep κ w v → (st'.get t).Rep κ' w' v) (hbox : ∀ b bs, st'.box b = some bs → ∃ bs0, st.box b = some bs0 ∧ ∀ vs, CellsRep κ w bs0 vs → CellsRep κ' w' bs vs) (hext : Ext w0 κ' st' w') : Rel w0 κ' st' a w' := by
  have hblk : ∀ {k : Nat} {t : TypeId} {cs : Array Value}, Blk w k t cs → Blk w' k t cs := fun {k t cs} hb => (hgr.block k hb.lt (fun e => by
    obtain ⟨_, o, h1, h2⟩ := hrow k e.symm
    rw [show w.heap[k]? = _ from hb] at h2
    injection h2 with h2
    rw [← h2] at h1; cases h1)).trans hb
  have hrw : ∀ r, st'.row r = st.row r := fun r => by show look? r st'.rows = look? r st.rows; rw [hrows]
  exact {
    defers := h.defers
    size := by rw [hn]; exact h.size
    env := fun t => henv t _ (h.env t)
    box := fun b bs hb => by
      obtain ⟨bs0, hb0, hc⟩ := hbox b bs hb
      obtain ⟨us, ty, hbk, hr, h1, h2⟩ := h.box b bs0 hb0
      rw [hβ, hS]
      exact ⟨us, ty, hblk hbk, hc us hr, h1, h2⟩
    apart := fun b b' bs bs' hb hb' e => by
      obtain ⟨bs0, hb0, _⟩ := hbox b bs hb
      obtain ⟨bs0', hb0', _⟩ := hbox b' bs' hb'
      rw [hβ] at e
      exact h.apart b b' _ _ hb0 hb0' e
    row := fun r x hx => by
      rw [hrw] at hx
      obtain ⟨cells, ho, hc, hnn⟩ := h.row r x hx
      rw [hρ, hβ, hS]
      refine ⟨cells, ho.kept hgr ?_, hc.keeps (κ := κ) (κ' := κ') hkeep (fun g hg _ => by rw [hS]; exact hg), fun g hg => ⟨(hnn g hg).1, fun b bs hb e => ?_⟩⟩
      · cases hb : (κ.ρ r).ownBlock with
        | none => exact .inl rfl
        | some g =>
          refine .inr fun e => ?_
          obtain ⟨_, o, h1, h2⟩ := hrow g e.symm
          exact owns_cells ho g hb o h1 h2
      · obtain ⟨bs0, hb0, _⟩ := hbox b bs hb
        exact (hnn g hg).2 b bs0 hb0 e
    rows := fun r r' x x' hx hx' g hg hg' => by
      rw [hrw] at hx hx'
      rw [hρ] at hg hg'
      exact h.rows r r' x x' hx hx' g hg hg'
    bound := fun g hg => by
      rw [hS] at hg
      exact Nat.lt_of_lt_of_le (h.bound g hg) hgr.size
    below := h.below.grown hgr h.low (fun k hk => (hrow k hk).1)
    old := fun g hg => by rw [hS] at hg; exact h.old g hg
    ext := hext }
theorem get_mapC (g : Cell → Cell) (hg : g .any = .any) (st : St) (t : Nat) : (st.mapC g).get t = (st.get t).mapC g := look_mapC g hg t st.env
theorem box_mapC (g : Cell → Cell) (st : St) {b : Nat} {bs : List Cell} (hb : (st.mapC g).box b = some bs) : ∃ bs0, st.box b = some bs0 ∧ bs = bs0.map g := by
  have hb : look? b (st.boxes.map fun (b, cs) => (b, cs.map g)) = some bs := hb
  rw [look?_map] at hb
  cases hx : look? b st.boxes with
  | none => rw [hx] at hb; cases hb
  | some bs0 => rw [hx] at hb; injection hb with hb; exact ⟨bs0, hx, hb.symm⟩
/-- the same, each cell taken by g -/
theorem Rel.mapWriteC {κ' : Cx} {st' : St} {g : Cell → Cell} (hg : g .any = .any) (h : Rel w0 κ st a w) (hβ : κ'.β = κ.β) (hρ : κ'.ρ = κ.ρ) (hS : κ'.S = κ.S) {row : Option Nat} (hgr : w.grownBy w' row) (hrow : ∀ k, row = some k → w0.n0 ≤ k ∧ ∃ o : Obj, o.mapLike = true ∧ w.heap[k]? = some o) (hkeep : Keeps w w' κ.S)
    (H : ∀ (c : Cell) v, c.Rep κ w v → (g c).Rep κ' w' v) (hn : st'.n = st.n) (hrows : st'.rows = st.rows) (henv : st'.env = (st.mapC g).env) (hbox : st'.boxes = (st.mapC g).boxes) (hsav : st'.sav = (st.mapC g).sav)
    (hmap : ∀ m y, st'.map m = some y → ∃ es clock, w'.heap[κ'.μ m]? = some (.map es clock) ∧ EntRep κ' w' y es clock ∧ w0.n0 ≤ κ'.μ m)
    (hmaps : ∀ m m' y y', st'.map m = some y → st'.map m' = some y' → κ'.μ m = κ'.μ m' → m = m')
    (hnest : ∀ y, st'.nest = some y → NestRep w0.n0 κ' st'.maps w' y)
    (hiter : ∀ i z, st'.iter i = some z → ItRep w0.n0 κ' w' z (κ'.μ.θ i))
    (hiters : ∀ i j z z', st'.iter i = some z → st'.iter j = some z' → κ'.μ.θ i = κ'.μ.θ j → i = j) : Rel w0 κ' st' a w' :=
  h.mapWrite hβ hρ hS hgr hrow hkeep hn hrows (fun t v hv => by
    have e : st'.get t = (st.get t).mapC g := by show look _ t st'.env = _; rw [henv]; exact get_mapC g hg st t
    rw [e]; exact mapC_av H hv) (fun b bs hb => by
    have hb : look? b st'.boxes = some bs := hb
    rw [hbox] at hb
    obtain ⟨bs0, h1, rfl⟩ := box_mapC g st hb
    exact ⟨bs0, h1, fun vs hv => mapC_cells H hv⟩) {
      sav := fun t => by
        rw [hsav]
        show AV.Rep _ _ (look _ t (st.sav.map fun (t, v) => (t, v.mapC g))) _
        rw [look_mapC _ hg]
        exact mapC_av H (h.ext.sav t)
      map := hmap
      maps := hmaps
      nest := hnest
      iter := hiter
      iters := hiters }
theorem val_keeps {κ' : Cx} (hS : κ'.S = κ.S) (hk : Keeps w w' κ.S) {k : Kd} {p : k.Pay} {v : Value} (h : Cell.Rep κ w (.val k p) v) : Cell.Rep κ' w' (.val k p) v :=
  Kd.Rep.keeps (S := κ.S) (S' := κ'.S) hk (fun g hg _ => by rw [hS]; exact hg) k p v h
theorem ep_keeps {κ' : Cx} (hS : κ'.S = κ.S) (hk : Keeps w w' κ.S) {fs : Kds} {p : fs.Pay} {f : Nat} {v : Value} (h : Cell.Rep κ w (.ep fs p f) v) : Cell.Rep κ' w' (.ep fs p f) v := by
  obtain ⟨g, o, rfl, hg, hs, hr⟩ := h
  exact ⟨g, o, rfl, Nat.lt_of_lt_of_le hg hk.size, by rw [hS]; exact hs, Kds.Rep.keeps (S := κ.S) (S' := κ'.S) hk (fun g hg _ => by rw [hS]; exact hg) fs p g o hs hg hr⟩
theorem dyn_keeps {κ' : Cx} (hS : κ'.S = κ.S) (hk : Keeps w w' κ.S) {t : TypeId} {ks : Kds} {p : ks.Pay} {v : Value} (h : Cell.Rep κ w (.dyn t ks p) v) : Cell.Rep κ' w' (.dyn t ks p) v := by
  obtain ⟨us, rfl, hl, hu⟩ := h
  exact ⟨us, rfl, hl, fun f z hz => let ⟨u, h1, h2⟩ := hu f z hz; ⟨u, h1, Kd.Rep.keeps (S := κ.S) (S' := κ'.S) hk (fun g hg _ => by rw [hS]; exact hg) z.1 z.2 u h2⟩⟩
theorem seq_keeps {κ' : Cx} (hS : κ'.S = κ.S) (hk : Keeps w w' κ.S) {f : FuncId} {src : Src} (hsrc : κ'.src src = κ.src src) {v : Value} (h : Cell.Rep κ w (.kseq f src) v) : Cell.Rep κ' w' (.kseq f src) v := by
  obtain ⟨g, rfl, hg, hs, hc⟩ := h
  exact ⟨g, rfl, Nat.lt_of_lt_of_le hg hk.size, by rw [hS]; exact hs, by rw [hsrc]; exact (hk.cell g 0 hs hg).trans hc⟩
/-- cells that do not speak of maps -/
theorem other_keeps {κ' : Cx} (hβ : κ'.β = κ.β) (hρ : κ'.ρ = κ.ρ) (hS : κ'.S = κ.S) (hk : Keeps w w' κ.S) {c : Cell} {v : Value} (h : c.Rep κ w v)
    (hc : match c with | .mref m => κ'.μ m = κ.μ m | .nref => κ'.μ.ν = κ.μ.ν | .iref kk k => κ'.μ.inn (kk.kv k) = κ.μ.inn (kk.kv k) | .iter i => κ'.μ.θ i = κ.μ.θ i | .kseq _ src => κ'.src src = κ.src src | _ => True) : c.Rep κ' w' v := by
  cases c with
  | any => trivial
  | undef => exact h
  | nil => exact h
  | val k p => exact val_keeps hS hk h
  | ptr b off => show v = _; rw [hβ]; exact h
  | ep fs p f => exact ep_keeps hS hk h
  | own r => show v = _ ∧ _; rw [hρ]; exact h
  | rp r sz i f => show ∃ g n c, _ ∧ _; rw [hρ]; exact h
  | fn f => exact h
  | clo f k ps =>
    have e : κ'.ptr = κ.ptr := by unfold Cx.ptr; rw [hβ]
    show v = .func _ (List.map κ'.ptr _).toArray (List.map κ'.ptr _).toArray
    rw [e]; exact h
  | nilm => exact h
  | mref m => show v = .map (some (κ'.μ m)); rw [show κ'.μ m = κ.μ m from hc]; exact h
  | nref => show v = .map (some κ'.μ.ν); rw [show κ'.μ.ν = κ.μ.ν from hc]; exact h
  | iref kk k => show v = .map (κ'.μ.inn (kk.kv k)); rw [show κ'.μ.inn (kk.kv k) = _ from hc]; exact h
  | iter i => show v = .pointer (some ⟨κ'.μ.θ i, 0, none⟩); rw [show κ'.μ.θ i = _ from hc]; exact h
  | kseq f src => exact seq_keeps hS hk hc h
  | dyn t ks p => exact dyn_keeps hS hk h
theorem no_iters (st : St) : ∀ (i : Nat) z, ({ st with iters := [] } : St).iter i = some z → False := fun i z h => by cases h
/-- a new map of maps -/
theorem Rel.newNest (h : Rel w0 κ st a w) (t : TypeId) (kk : CK) (it : TypeId) (ik iv : CK) : ∃ κ', Rel w0 κ' (st.newNest ⟨t, kk, it, ik, iv, []⟩) a (w.alloc (.map #[] 0)) ∧ κ'.μ.ν = w.heap.size := by
  have hbel : Below w.heap.size w (w.alloc (.map #[] 0)) := bel_alloc (bel_refl w) _
  have hkeep : Keeps w (w.alloc (.map #[] 0)) κ.S := Keeps.below hbel κ.S
  let κ' : Cx := { κ with μ := { κ.μ with ν := w.heap.size, inn := fun _ => none } }
  have H : ∀ (c : Cell) v, c.Rep κ w v → (c.dropNest).Rep κ' (w.alloc (.map #[] 0)) v := fun c v hr => by
    cases c with
    | nref => trivial
    | iref kk k => trivial
    | kseq f src =>
      cases src with
      | inner kk k => trivial
      | map m => exact other_keeps (κ' := κ') rfl rfl rfl hkeep hr rfl
      | none => exact other_keeps (κ' := κ') rfl rfl rfl hkeep hr rfl
    | mref m => exact other_keeps (κ' := κ') rfl rfl rfl hkeep hr rfl
    | iter i => exact other_keeps (κ' := κ') rfl rfl rfl hkeep hr rfl
    | any => exact other_keeps (κ' := κ') rfl rfl rfl hkeep hr trivial
    | undef => exact other_keeps (κ' := κ') rfl rfl rfl hkeep hr trivial
    | nil => exact other_keeps (κ' := κ') rfl rfl rfl hkeep hr trivial
    | val k p => exact other_keeps (κ' := κ') rfl rfl rfl hkeep hr trivial
    | ptr b off => exact other_keeps (κ' := κ') rfl rfl rfl hkeep hr trivial
    | ep fs p f => exact other_keeps (κ' := κ') rfl rfl rfl hkeep hr trivial
    | own r => exact other_keeps (κ' := κ') rfl rfl rfl hkeep hr trivial
    | rp r sz i f => exact other_keeps (κ' := κ') rfl rfl rfl hkeep hr trivial
    | fn f => exact other_keeps (κ' := κ') rfl rfl rfl hkeep hr trivial
    | clo f k ps => exact other_keeps (κ' := κ') rfl rfl rfl hkeep hr trivial
    | nilm => exact other_keeps (κ' := κ') rfl rfl rfl hkeep hr trivial
    | dyn t ks p => exact other_keeps (κ' := κ') rfl rfl rfl hkeep hr trivial
  have HV : ∀ k p v, Cell.Rep κ w (.val k p) v → Cell.Rep κ' (w.alloc (.map #[] 0)) (.val k p) v := fun k p v hr => val_keeps (κ' := κ') rfl hkeep hr
  refine ⟨κ', h.mapWriteC (g := Cell.dropNest) (κ' := κ') (row := none) rfl rfl rfl rfl (World.grownBy_alloc w _ none) (fun k e => nomatch e) hkeep H rfl rfl rfl rfl rfl ?_ h.ext.maps ?_ (fun i z e => nomatch e) (fun i j z z' e => nomatch e), rfl⟩
  · intro m y hy
    obtain ⟨es, clock, h1, h2, h3⟩ := h.ext.map m y hy
    exact ⟨es, clock, maps_below hbel _ _ rfl h1, h2.mono HV, h3⟩
  · intro y hy
    injection hy with hy
    subst hy
    exact {
      out := ⟨#[], 0, World.alloc_heap_new w _, rfl, (fun i x hx => nomatch hx), (fun e he => by cases he), by simp⟩
      inn := fun i x hx => nomatch hx
      miss := fun k _ => rfl
      inj := fun i j x x' hx => nomatch hx
      low := h.low
      apart := fun m z hz => by
        obtain ⟨es, clock, h1, _⟩ := h.ext.map m z hz
        have := lt_of_some h1
        show κ.μ m ≠ w.heap.size
        omega }
open Classical in
/-- a map of the call's own is put into the map of maps -/
theorem Rel.putNest (h : Rel w0 κ st a w) {m : Nat} {y : NRow} {zxs : List (y.ik.Pay × y.iv.Pay)} (hz : st.map m = some ⟨y.it, y.ik, y.iv, zxs⟩) (hy : st.nest = some y) (hp : y.kk.plain = true) {k : y.kk.Pay} (hk : y.at_ k = none) {es : Array MapEntry} {clock : Nat} (hout : w.heap[κ.μ.ν]? = some (.map es clock)) :
    ∃ κ', Rel w0 κ' (st.putNest m ⟨y.t, y.kk, y.it, y.ik, y.iv, y.xs ++ [(k, zxs)]⟩) a (setB w κ.μ.ν (.map (es.push { key := y.kk.kv k, val := .map (some (κ.μ m)), born := clock }) (clock + 1))) := by
  have hN := h.ext.nest y hy
  obtain ⟨es0, clock0, hg, hsz, hat, hborn, hnd⟩ := hN.out
  rw [hout] at hg
  injection hg with hg
  injection hg with e1 e2
  subst e1; subst e2
  obtain ⟨zes, zclock, hzg, hzE, hzn⟩ := h.ext.map m _ hz
  have hltN := lt_of_some hout
  have hkeep : Keeps w (setB w κ.μ.ν (.map (es.push { key := y.kk.kv k, val := .map (some (κ.μ m)), born := clock }) (clock + 1))) κ.S := setB_keeps rfl rfl hout κ.S
  generalize hw' : (setB w κ.μ.ν (.map (es.push { key := y.kk.kv k, val := .map (some (κ.μ m)), born := clock }) (clock + 1))) = w' at *
  let κ' : Cx := { κ with μ := { κ.μ with inn := fun v => if v = y.kk.kv k then some (κ.μ m) else κ.μ.inn v } }
  have hinn : ∀ q : y.kk.Pay, q ≠ k → κ'.μ.inn (y.kk.kv q) = κ.μ.inn (y.kk.kv q) := fun q hq => by
    show (if y.kk.kv q = y.kk.kv k then _ else _) = _
    rw [if_neg (fun e => hq (ck_kv_inj hp e))]
  have hinnk : κ'.μ.inn (y.kk.kv k) = some (κ.μ m) := if_pos rfl
  have hne : ∀ (i : Nat) x, y.xs[i]? = some x → x.1 ≠ k := fun i x hx e => by
    have := get_none _ _ _ hk i x hx
    rw [e, ck_eqB_self hp] at this; cases this
  have hoth : ∀ (g : Nat) (o : Obj), g ≠ κ.μ.ν → w.heap[g]? = some o → w'.heap[g]? = some o := fun g o hgn ho => by
    rw [← hw', setB_other hgn]; exact ho
  have H : ∀ (c : Cell) v, c.Rep κ w v → ((c.dropMap m).dropInner).Rep κ' w' v := fun c v hr => by
    cases c with
    | mref j =>
      show Cell.Rep κ' w' (Cell.dropInner (bif j.beq m then .any else .mref j)) v
      cases j.beq m
      · exact other_keeps (κ' := κ') (c := .mref j) rfl rfl rfl hkeep hr rfl
      · trivial
    | iref kk k => trivial
    | kseq f src =>
      cases src with
      | inner kk k => trivial
      | map j =>
        show Cell.Rep κ' w' (Cell.dropInner (bif j.beq m then .any else .kseq f (.map j))) v
        cases j.beq m
        · exact other_keeps (κ' := κ') (c := .kseq f (.map j)) rfl rfl rfl hkeep hr rfl
        · trivial
      | none => exact other_keeps (κ' := κ') rfl rfl rfl hkeep hr rfl
    | nref => exact other_keeps (κ' := κ') rfl rfl rfl hkeep hr rfl
    | iter i => exact other_keeps (κ' := κ') rfl rfl rfl hkeep hr rfl
    | any => exact other_keeps (κ' := κ') rfl rfl rfl hkeep hr trivial
    | undef => exact other_keeps (κ' := κ') rfl rfl rfl hkeep hr trivial
    | nil => exact other_keeps (κ' := κ') rfl rfl rfl hkeep hr trivial
    | val k p => exact other_keeps (κ' := κ') rfl rfl rfl hkeep hr trivial
    | ptr b off => exact other_keeps (κ' := κ') rfl rfl rfl hkeep hr trivial
    | ep fs p f => exact other_keeps (κ' := κ') rfl rfl rfl hkeep hr trivial
    | own r => exact other_keeps (κ' := κ') rfl rfl rfl hkeep hr trivial
    | rp r sz i f => exact other_keeps (κ' := κ') rfl rfl rfl hkeep hr trivial
    | fn f => exact other_keeps (κ' := κ') rfl rfl rfl hkeep hr trivial
    | clo f k ps => exact other_keeps (κ' := κ') rfl rfl rfl hkeep hr trivial
    | nilm => exact other_keeps (κ' := κ') rfl rfl rfl hkeep hr trivial
    | dyn t ks p => exact other_keeps (κ' := κ') rfl rfl rfl hkeep hr trivial
  have HV : ∀ k p v, Cell.Rep κ w (.val k p) v → Cell.Rep κ' w' (.val k p) v := fun k p v hr => val_keeps (κ' := κ') rfl hkeep hr
  have hdrop : ∀ j z, look? j (dropKey m st.maps) = some z → j ≠ m ∧ st.map j = some z := fun j z hj => by
    rw [look?_dropKey] at hj
    split at hj
    · cases hj
    · rename_i e; exact ⟨e, hj⟩
  have hgrown : w.grownBy w' (some κ.μ.ν) := by rw [← hw']; exact setB_grown
  refine ⟨κ', h.mapWriteC (g := fun c => (c.dropMap m).dropInner) (κ' := κ') (row := some κ.μ.ν) rfl rfl rfl rfl hgrown (fun k e => by injection e with e; subst e; exact ⟨hN.low, _, rfl, hout⟩) hkeep H rfl rfl rfl rfl rfl ?_ ?_ ?_ (fun i z e => nomatch e) (fun i j z z' e => nomatch e)⟩
  · intro j z hj
    obtain ⟨_, hj⟩ := hdrop j z hj
    obtain ⟨es1, c1, h1, h2, h3⟩ := h.ext.map j z hj
    exact ⟨es1, c1, hoth _ _ (hN.apart j z hj) h1, h2.mono HV, h3⟩
  · intro j j' z z' hj hj' e
    obtain ⟨_, hj⟩ := hdrop j z hj
    obtain ⟨_, hj'⟩ := hdrop j' z' hj'
    exact h.ext.maps j j' z z' hj hj' e
  · intro y' hy'
    injection hy' with hy'
    subst hy'
    have hcase : ∀ (i : Nat) x, (y.xs ++ [(k, zxs)])[i]? = some x → (i < y.xs.length ∧ y.xs[i]? = some x) ∨ (i = y.xs.length ∧ x = (k, zxs)) := fun i x hx => by
      rcases Nat.lt_trichotomy i y.xs.length with hlt | heq | hgt
      · rw [List.getElem?_append_left hlt] at hx; exact .inl ⟨hlt, hx⟩
      · subst heq
        rw [List.getElem?_append_right (Nat.le_refl _), Nat.sub_self] at hx
        injection hx with hx
        exact .inr ⟨rfl, hx.symm⟩
      · rw [List.getElem?_eq_none (by simp; omega)] at hx; cases hx
    exact {
      out := by
        refine ⟨_, _, by rw [← hw']; exact setB_self hltN, by rw [Array.size_push, hsz]; simp, fun i x hx => ?_, fun e he => ?_, ?_⟩
        · rcases hcase i x hx with ⟨hlt, hx⟩ | ⟨rfl, rfl⟩
          · obtain ⟨e, he, q1, q2⟩ := hat i x hx
            refine ⟨e, ?_, comp_val HV _ _ q1, ?_⟩
            · rw [Array.getElem?_push, if_neg (by rw [hsz]; omega)]; exact he
            · rw [q2, hinn x.1 (hne i x hx)]
          · refine ⟨{ key := y.kk.kv k, val := .map (some (κ.μ m)), born := clock }, by rw [Array.getElem?_push, if_pos hsz.symm], ck_rep hp, ?_⟩
            show Value.map (some (κ.μ m)) = .map (κ'.μ.inn (y.kk.kv k))
            rw [hinnk]
        · rw [Array.toList_push, List.mem_append] at he
          rcases he with he | he
          · exact Nat.lt_succ_of_lt (hborn e he)
          · obtain rfl := List.mem_singleton.1 he
            exact Nat.lt_succ_self _
        · rw [Array.toList_push, List.map_append, List.nodup_append]
          refine ⟨hnd, by simp, fun a ha b hb e => ?_⟩
          simp only [List.map_cons, List.map_nil, List.mem_singleton] at hb
          obtain ⟨x, hx, rfl⟩ := List.mem_map.1 ha
          have := hborn x hx
          omega
      inn := fun i x hx => by
        rcases hcase i x hx with ⟨hlt, hx⟩ | ⟨rfl, rfl⟩
        · obtain ⟨g, es1, c1, q1, q2, q3, q4, q5, q6⟩ := hN.inn i x hx
          refine ⟨g, es1, c1, by rw [hinn x.1 (hne i x hx)]; exact q1, hoth _ _ q5 q2, q3.mono HV, q4, q5, fun j z hj => q6 j z (hdrop j z hj).2⟩
        · exact ⟨κ.μ m, zes, zclock, hinnk, hoth _ _ (hN.apart m _ hz) hzg, hzE.mono HV, hzn, hN.apart m _ hz, fun j z hj e => (hdrop j z hj).1 (h.ext.maps j m z _ (hdrop j z hj).2 hz e)⟩
      miss := fun q hq => by
        obtain ⟨q1, q2⟩ := get_snoc_none _ _ _ _ _ hq
        have hqk : q ≠ k := fun e => by rw [e, ck_eqB_self hp] at q2; cases q2
        show κ'.μ.inn (y.kk.kv q) = none
        rw [hinn q hqk]
        exact hN.miss q q1
      inj := fun i j x x' hx hx' e => by
        have e : κ'.μ.inn (y.kk.kv x.1) = κ'.μ.inn (y.kk.kv x'.1) := e
        rcases hcase i x hx with ⟨hlt, hx⟩ | ⟨rfl, rfl⟩ <;> rcases hcase j x' hx' with ⟨hlt', hx'⟩ | ⟨rfl, rfl⟩
        · rw [hinn _ (hne i x hx), hinn _ (hne j x' hx')] at e
          exact hN.inj i j x x' hx hx' e
        · rw [hinn _ (hne i x hx), hinnk] at e
          obtain ⟨g, es1, c1, q1, _, _, _, _, q6⟩ := hN.inn i x hx
          rw [q1] at e
          injection e with e
          exact absurd e.symm (q6 m _ hz)
        · rw [hinn _ (hne j x' hx'), hinnk] at e
          obtain ⟨g, es1, c1, q1, _, _, _, _, q6⟩ := hN.inn j x' hx'
          rw [q1] at e
          injection e with e
          exact absurd e (q6 m _ hz)
        · rfl
      low := hN.low
      apart := fun j z hj => hN.apart j z (hdrop j z hj).2 }
theorem itersOff_spec {kk : CK} {k : kk.Pay} : ∀ {l : List (Nat × ItP)}, itersOff kk k l → ∀ i z, look? i l = some z → (∃ q : kk.Pay, z.src = .inner kk q ∧ q ≠ k) ∨ z.src = .none
  | [], _, i, z, h => by cases h
  | (j, y) :: r, ho, i, z, h => by
    obtain ⟨h1, h2⟩ : (match y.src with
      | .inner kk' k' => match kk'.deq kk with
        | some ⟨h⟩ => ¬ (h ▸ k') = k
        | none => False
      | .none => True
      | .map _ => False) ∧ itersOff kk k r := ho
    rw [look?_cons] at h
    split at h
    · injection h with h; subst h
      split at h1
      · rename_i kk' k' hs
        split at h1
        · rename_i e _
          subst e
          exact .inl ⟨k', hs, h1⟩
        · exact h1.elim
      · rename_i hs; exact .inr hs
      · exact h1.elim
    · exact itersOff_spec h2 i z h
/-- a map of the map of maps is written -/
theorem Rel.setInner (h : Rel w0 κ st a w) {y : NRow} (hy : st.nest = some y) (hp : y.kk.plain = true) {k : y.kk.Pay} {l l' : List (y.ik.Pay × y.iv.Pay)} (hk : y.at_ k = some l) (hoff : itersOff y.kk k st.iters) {g : Nat} {es es' : Array MapEntry} {clock clock' : Nat} (hinn : κ.μ.inn (y.kk.kv k) = some g) (hg : w.heap[g]? = some (.map es clock)) (hE : EntRep κ w ⟨y.it, y.ik, y.iv, l'⟩ es' clock') :
    Rel w0 κ (st.setNest ⟨y.t, y.kk, y.it, y.ik, y.iv, Mp.put y.kk.eqB k l' y.xs⟩) a (setB w g (.map es' clock')) := by
  have hN := h.ext.nest y hy
  have hlt := lt_of_some hg
  have hkeep : Keeps w (setB w g (.map es' clock')) κ.S := setB_keeps rfl rfl hg κ.S
  have HV : ∀ k p v, Cell.Rep κ w (.val k p) v → Cell.Rep κ (setB w g (.map es' clock')) (.val k p) v := fun k p v hr => val_keeps rfl hkeep hr
  obtain ⟨r, hr⟩ : ∃ r, Mp.idx y.kk.eqB k y.xs 0 = some r := by
    cases hi : Mp.idx y.kk.eqB k y.xs 0 with
    | none =>
      have := Mp.idx_get y.kk.eqB k y.xs 0
      rw [hi, show Mp.get y.kk.eqB k y.xs = _ from hk] at this; cases this
    | some r => exact ⟨r, rfl⟩
  obtain ⟨q, _, hq, hqe, hq2⟩ := Mp.idx_at _ _ _ _ _ _ hr
  rw [Nat.sub_zero] at hq
  have hqk : q.1 = k := (ck_eq hqe).symm
  have hput : Mp.put y.kk.eqB k l' y.xs = y.xs.set r.1 (k, l') := by rw [Mp.put_some _ _ _ _ _ _ _ hr, Nat.sub_zero]
  have hgq : ∀ (i : Nat) x, y.xs[i]? = some x → κ.μ.inn (y.kk.kv x.1) = some g → i = r.1 := fun i x hx e => hN.inj i r.1 x q hx hq (by rw [e, hqk, hinn])
  obtain ⟨g0, es0, c0, p1, p2, p3, p4, p5, p6⟩ := hN.inn r.1 q hq
  rw [hqk, hinn] at p1
  injection p1 with p1
  subst p1
  have hoth : ∀ (j : Nat) (o : Obj), j ≠ g → w.heap[j]? = some o → (setB w g (.map es' clock')).heap[j]? = some o := fun j o hgn ho => (setB_other hgn).trans ho
  have hlt2 : r.1 < y.xs.length := (List.getElem?_eq_some_iff.1 hq).1
  have hcase : ∀ (i : Nat) x, (y.xs.set r.1 (k, l'))[i]? = some x → (i ≠ r.1 ∧ y.xs[i]? = some x) ∨ (i = r.1 ∧ x = (k, l')) := fun i x hx => by
    rw [List.getElem?_set] at hx
    by_cases e : r.1 = i
    · rw [if_pos e, if_pos (by omega)] at hx
      injection hx with hx
      exact .inr ⟨e.symm, hx.symm⟩
    · rw [if_neg e] at hx; exact .inl ⟨fun h => e h.symm, hx⟩
  have hgrown : w.grownBy (setB w g (.map es' clock')) (some g) := setB_grown
  refine h.mapWrite (κ' := κ) (row := some g) rfl rfl rfl hgrown (fun k e => by injection e with e; subst e; exact ⟨p4, _, rfl, hg⟩) hkeep rfl rfl (fun t v hv => hv.keeps rfl rfl rfl hkeep (fun g hg _ => hg)) (fun b bs hb => ⟨bs, hb, fun vs hv => hv.mono (fun c v hc => hc.keeps rfl rfl rfl hkeep (fun g hg _ => hg))⟩) ?_
  exact {
    sav := fun t => (h.ext.sav t).keeps rfl rfl rfl hkeep (fun g hg _ => hg)
    map := fun m z hz => by
      obtain ⟨es1, c1, h1, h2, h3⟩ := h.ext.map m z hz
      exact ⟨es1, c1, hoth _ _ (p6 m z hz) h1, h2.mono HV, h3⟩
    maps := h.ext.maps
    nest := fun y' hy' => by
      injection hy' with hy'
      subst hy'
      rw [hput]
      obtain ⟨eo, co, o1, o2, o3, o4, o5⟩ := hN.out
      exact {
        out := by
          refine ⟨eo, co, hoth _ _ (fun e => p5 e.symm) o1, by rw [o2]; simp, fun i x hx => ?_, o4, o5⟩
          rcases hcase i x hx with ⟨hne, hx⟩ | ⟨rfl, rfl⟩
          · obtain ⟨e, he, q1, q2⟩ := o3 i x hx
            exact ⟨e, he, comp_val HV _ _ q1, q2⟩
          · obtain ⟨e, he, q1, q2⟩ := o3 r.1 q hq
            rw [hqk] at q1 q2
            exact ⟨e, he, comp_val HV _ _ q1, q2⟩
        inn := fun i x hx => by
          rcases hcase i x hx with ⟨hne, hx⟩ | ⟨rfl, rfl⟩
          · obtain ⟨g1, es1, c1, q1, q2, q3, q4, q5, q6⟩ := hN.inn i x hx
            refine ⟨g1, es1, c1, q1, hoth _ _ (fun e => hne (hgq i x hx (by rw [q1, e]))) q2, q3.mono HV, q4, q5, q6⟩
          · exact ⟨g, es', clock', hinn, setB_self hlt, hE.mono HV, p4, p5, p6⟩
        miss := fun q' hq' => by
          have e : y.at_ q' = none := by
            cases hh : y.at_ q' with
            | none => rfl
            | some l0 =>
              obtain ⟨i, x, x1, x2, x3⟩ := get_mem _ _ _ _ hh
              have hq'' : Mp.get y.kk.eqB q' (y.xs.set r.1 (k, l')) = none := hq'
              by_cases ei : i = r.1
              · subst ei
                rw [hq] at x1
                injection x1 with x1
                have := get_none _ _ _ hq'' r.1 (k, l') (by rw [List.getElem?_set, if_pos rfl, if_pos hlt2])
                rw [← x1, hqk] at x2
                rw [x2] at this; cases this
              · have := get_none _ _ _ hq'' i x (by rw [List.getElem?_set, if_neg (fun h => ei h.symm)]; exact x1)
                rw [x2] at this; cases this
          exact hN.miss q' e
        inj := fun i j x x' hx hx' e => by
          have hkey : ∀ (i : Nat) x, (y.xs.set r.1 (k, l'))[i]? = some x → ∃ x0, y.xs[i]? = some x0 ∧ x0.1 = x.1 := fun i x hx => by
            rcases hcase i x hx with ⟨_, hx⟩ | ⟨rfl, rfl⟩
            · exact ⟨x, hx, rfl⟩
            · exact ⟨q, hq, hqk⟩
          obtain ⟨x0, a1, a2⟩ := hkey i x hx
          obtain ⟨x1, b1, b2⟩ := hkey j x' hx'
          have e : κ.μ.inn (y.kk.kv x.1) = κ.μ.inn (y.kk.kv x'.1) := e
          rw [← a2, ← b2] at e
          exact hN.inj i j x0 x1 a1 b1 e
        low := hN.low
        apart := hN.apart }
    iter := fun i z hz => by
      have hz : st.iter i = some z := hz
      have hI := h.ext.iter i z hz
      have hne : κ.μ.θ i ≠ g := fun e => by
        obtain ⟨_, hI⟩ := hI
        rcases hI with ⟨a', b', s', q1, _⟩ | ⟨bm, es1, c1, seen, c2, _, _, q1, _⟩
        · rw [e, hg] at q1; cases q1
        · rw [e, hg] at q1; cases q1
      refine hI.move rfl HV (fun o _ ho => hoth _ _ hne ho) (fun bm es c hbm ho => hoth _ _ (fun e => ?_) ho)
      rcases itersOff_spec hoff i z hz with ⟨q', hs, hne'⟩ | hs
      · rw [hs] at hbm
        have hbm : κ.μ.inn (y.kk.kv q') = some bm := hbm
        rcases hN.val hp q' with ⟨l0, g1, es1, c1, v1, v2, v3, v4, v5, v6, v7, i0, x0, v8, v9, v10⟩ | ⟨v1, v2⟩
        · rw [v2] at hbm
          injection hbm with hbm
          have := hgq i0 x0 v8 (by rw [v9, v2, hbm, e])
          subst this
          rw [hq] at v8
          injection v8 with v8
          rw [← v8, hqk] at v9
          exact hne' v9.symm
        · rw [v2] at hbm; cases hbm
      · rw [hs] at hbm; cases hbm
    iters := h.ext.iters }
/-- a new iterator -/
theorem Rel.newIter (h : Rel w0 κ st a w) (i : Nat) (z : ItP) {o : Obj} (ho : o.mapLike = true) (hz : ∀ κ' : Cx, κ'.src z.src = κ.src z.src → κ'.S = κ.S → κ'.μ.θ i = w.heap.size → ItRep w0.n0 κ' (w.alloc o) z w.heap.size) :
    ∃ κ', Rel w0 κ' (st.newIter i z) a (w.alloc o) ∧ κ'.μ.θ i = w.heap.size := by
  have hbel : Below w.heap.size w (w.alloc o) := bel_alloc (bel_refl w) _
  have hkeep : Keeps w (w.alloc o) κ.S := Keeps.below hbel κ.S
  let κ' : Cx := { κ with μ := { κ.μ with θ := fun j => if j = i then w.heap.size else κ.μ.θ j } }
  have hsrc : ∀ s : Src, κ'.src s = κ.src s := fun s => by cases s <;> rfl
  have H : ∀ (c : Cell) v, c.Rep κ w v → (c.dropIter i).Rep κ' (w.alloc o) v := fun c v hr => by
    cases c with
    | iter j =>
      show Cell.Rep κ' _ (bif j.beq i then .any else .iter j) v
      cases hb : j.beq i
      · have hne : j ≠ i := fun e => by rw [e, Nat.beq_refl] at hb; cases hb
        exact other_keeps (κ := κ) (κ' := κ') (c := .iter j) rfl rfl rfl hkeep hr (if_neg hne)
      · trivial
    | mref j => exact other_keeps (κ' := κ') rfl rfl rfl hkeep hr rfl
    | iref kk k => exact other_keeps (κ' := κ') rfl rfl rfl hkeep hr rfl
    | kseq f src => exact other_keeps (κ' := κ') rfl rfl rfl hkeep hr (hsrc src)
    | nref => exact other_keeps (κ' := κ') rfl rfl rfl hkeep hr rfl
    | any => exact other_keeps (κ' := κ') rfl rfl rfl hkeep hr trivial
    | undef => exact other_keeps (κ' := κ') rfl rfl rfl hkeep hr trivial
    | nil => exact other_keeps (κ' := κ') rfl rfl rfl hkeep hr trivial
    | val k p => exact other_keeps (κ' := κ') rfl rfl rfl hkeep hr trivial
    | ptr b off => exact other_keeps (κ' := κ') rfl rfl rfl hkeep hr trivial
    | ep fs p f => exact other_keeps (κ' := κ') rfl rfl rfl hkeep hr trivial
    | own r => exact other_keeps (κ' := κ') rfl rfl rfl hkeep hr trivial
    | rp r sz i f => exact other_keeps (κ' := κ') rfl rfl rfl hkeep hr trivial
    | fn f => exact other_keeps (κ' := κ') rfl rfl rfl hkeep hr trivial
    | clo f k ps => exact other_keeps (κ' := κ') rfl rfl rfl hkeep hr trivial
    | nilm => exact other_keeps (κ' := κ') rfl rfl rfl hkeep hr trivial
    | dyn t ks p => exact other_keeps (κ' := κ') rfl rfl rfl hkeep hr trivial
  have HV : ∀ k p v, Cell.Rep κ w (.val k p) v → Cell.Rep κ' (w.alloc o) (.val k p) v := fun k p v hr => val_keeps (κ' := κ') rfl hkeep hr
  have hit : ∀ j z', (st.newIter i z).iter j = some z' → (j = i ∧ z' = z) ∨ (j ≠ i ∧ st.iter j = some z') := fun j z' hj => by
    have hj : look? j ((i, z) :: dropKey i st.iters) = some z' := hj
    rw [look?_cons, look?_dropKey] at hj
    by_cases e : i = j
    · rw [if_pos e] at hj; injection hj with hj; exact .inl ⟨e.symm, hj.symm⟩
    · rw [if_neg e, if_neg (fun h => e h.symm)] at hj; exact .inr ⟨fun h => e h.symm, hj⟩
  have hlt : ∀ j z', st.iter j = some z' → κ.μ.θ j < w.heap.size := fun j z' hj => by
    obtain ⟨_, hI⟩ := h.ext.iter j z' hj
    rcases hI with ⟨a', b', s', q1, _⟩ | ⟨bm, es1, c1, seen, c2, _, _, q1, _⟩
    · exact lt_of_some q1
    · exact lt_of_some q1
  refine ⟨κ', h.mapWriteC (g := Cell.dropIter i) (κ' := κ') (row := none) rfl rfl rfl rfl (World.grownBy_alloc w _ none) (fun k e => nomatch e) hkeep H rfl rfl rfl rfl rfl ?_ h.ext.maps ?_ ?_ ?_, if_pos rfl⟩
  · intro m y hy
    obtain ⟨es, clock, h1, h2, h3⟩ := h.ext.map m y hy
    exact ⟨es, clock, maps_below hbel _ _ rfl h1, h2.mono HV, h3⟩
  · intro y hy
    exact {
      out := by
        obtain ⟨es, clock, h1, h2, h3, h4⟩ := (h.ext.nest y hy).out
        exact ⟨es, clock, maps_below hbel _ _ rfl h1, h2, fun i x hx => let ⟨e, he, q1, q2⟩ := h3 i x hx; ⟨e, he, comp_val HV _ _ q1, q2⟩, h4⟩
      inn := fun i x hx => by
        obtain ⟨g, es, clock, h1, h2, h3, h4⟩ := (h.ext.nest y hy).inn i x hx
        exact ⟨g, es, clock, h1, maps_below hbel _ _ rfl h2, h3.mono HV, h4⟩
      miss := (h.ext.nest y hy).miss
      inj := (h.ext.nest y hy).inj
      low := (h.ext.nest y hy).low
      apart := (h.ext.nest y hy).apart }
  · intro j z' hj
    rcases hit j z' hj with ⟨rfl, rfl⟩ | ⟨hne, hj⟩
    · show ItRep _ κ' _ _ (if j = j then w.heap.size else κ.μ.θ j)
      rw [if_pos rfl]
      exact hz κ' (hsrc _) rfl (if_pos rfl)
    · show ItRep _ κ' _ _ (if j = i then w.heap.size else κ.μ.θ j)
      rw [if_neg hne]
      exact (h.ext.iter j z' hj).move (hsrc _) HV (fun o ho => maps_below hbel _ o ho) (fun bm es c _ ho => maps_below hbel bm _ rfl ho)
  · intro j j' z1 z2 hj hj' e
    have e : (if j = i then w.heap.size else κ.μ.θ j) = (if j' = i then w.heap.size else κ.μ.θ j') := e
    rcases hit j z1 hj with ⟨e1, _⟩ | ⟨hne, g1⟩ <;> rcases hit j' z2 hj' with ⟨e2, _⟩ | ⟨hne', g2⟩
    · rw [e1, e2]
    · rw [if_pos e1, if_neg hne'] at e
      have := hlt j' z2 g2
      omega
    · rw [if_neg hne, if_pos e2] at e
      have := hlt j z1 g1
      omega
    · rw [if_neg hne, if_neg hne'] at e
      exact h.ext.iters j j' z1 z2 g1 g2 e
/-- an iterator's step -/
theorem Rel.stepIter (h : Rel w0 κ st a w) {i : Nat} {z z' : ItP} (hi : st.iter i = some z) {o : Obj} (ho : o.mapLike = true) (hz : ItRep w0.n0 κ (setB w (κ.μ.θ i) o) z' (κ.μ.θ i)) (hno : ∀ es c, o ≠ Obj.map es c) : Rel w0 κ (st.setIter i z') a (setB w (κ.μ.θ i) o) := by
  have hI := h.ext.iter i z hi
  obtain ⟨o0, hm0, hh0, hn0⟩ : ∃ o0 : Obj, o0.mapLike = true ∧ w.heap[κ.μ.θ i]? = some o0 ∧ ∀ es c, o0 ≠ Obj.map es c := by
    obtain ⟨_, hI⟩ := hI
    rcases hI with ⟨a', b', s', q1, _⟩ | ⟨bm, es1, c1, seen, c2, _, _, q1, _⟩
    · exact ⟨_, rfl, q1, fun es c e => nomatch e⟩
    · exact ⟨_, rfl, q1, fun es c e => nomatch e⟩
  have hlow := hI.1
  have hkeep : Keeps w (setB w (κ.μ.θ i) o) κ.S := setB_keeps hm0 ho hh0 κ.S
  have HV : ∀ k p v, Cell.Rep κ w (.val k p) v → Cell.Rep κ (setB w (κ.μ.θ i) o) (.val k p) v := fun k p v hr => val_keeps rfl hkeep hr
  have hmapsEq : ∀ g es c, w.heap[g]? = some (Obj.map es c) → (setB w (κ.μ.θ i) o).heap[g]? = some (Obj.map es c) := fun g es c hg => by
    rw [setB_other (fun e => by rw [e, hh0] at hg; injection hg with hg; exact hn0 es c hg)]; exact hg
  have hit : ∀ j y, (st.setIter i z').iter j = some y → (j = i ∧ y = z') ∨ (j ≠ i ∧ st.iter j = some y) := fun j y hj => by
    have hj : look? j ((i, z') :: dropKey i st.iters) = some y := hj
    rw [look?_cons, look?_dropKey] at hj
    by_cases e : i = j
    · rw [if_pos e] at hj; injection hj with hj; exact .inl ⟨e.symm, hj.symm⟩
    · rw [if_neg e, if_neg (fun h => e h.symm)] at hj; exact .inr ⟨fun h => e h.symm, hj⟩
  have hold : ∀ j y, (st.setIter i z').iter j = some y → ∃ y0, st.iter j = some y0 := fun j y hj => by
    rcases hit j y hj with ⟨rfl, _⟩ | ⟨_, hj⟩
    · exact ⟨z, hi⟩
    · exact ⟨y, hj⟩
  refine h.mapWrite (κ' := κ) (row := some (κ.μ.θ i)) rfl rfl rfl setB_grown (fun k e => by injection e with e; subst e; exact ⟨hlow, o0, hm0, hh0⟩) hkeep rfl rfl (fun t v hv => hv.keeps rfl rfl rfl hkeep (fun g hg _ => hg)) (fun b bs hb => ⟨bs, hb, fun vs hv => hv.mono (fun c v hc => hc.keeps rfl rfl rfl hkeep (fun g hg _ => hg))⟩) ?_
  exact {
    sav := fun t => (h.ext.sav t).keeps rfl rfl rfl hkeep (fun g hg _ => hg)
    map := fun m y hy => by
      obtain ⟨es1, c1, h1, h2, h3⟩ := h.ext.map m y hy
      exact ⟨es1, c1, hmapsEq _ _ _ h1, h2.mono HV, h3⟩
    maps := h.ext.maps
    nest := fun y hy => by
      have hN := h.ext.nest y hy
      exact {
        out := by
          obtain ⟨es, clock, h1, h2, h3, h4⟩ := hN.out
          exact ⟨es, clock, hmapsEq _ _ _ h1, h2, fun i x hx => let ⟨e, he, q1, q2⟩ := h3 i x hx; ⟨e, he, comp_val HV _ _ q1, q2⟩, h4⟩
        inn := fun i x hx => by
          obtain ⟨g, es, clock, h1, h2, h3, h4⟩ := hN.inn i x hx
          exact ⟨g, es, clock, h1, hmapsEq _ _ _ h2, h3.mono HV, h4⟩
        miss := hN.miss
        inj := hN.inj
        low := hN.low
        apart := hN.apart }
    iter := fun j y hj => by
      rcases hit j y hj with ⟨rfl, rfl⟩ | ⟨hne, hj⟩
      · exact hz
      · have hI' := h.ext.iter j y hj
        exact hI'.move rfl HV (fun o' _ ho' => by rw [setB_other (fun e => hne (h.ext.iters j i y z hj hi e))]; exact ho') (fun bm es c _ ho' => hmapsEq bm es c ho')
    iters := fun j j' y y' hj hj' e => by
      obtain ⟨y0, h0⟩ := hold j y hj
      obtain ⟨y1, h1⟩ := hold j' y' hj'
      exact h.ext.iters j j' y0 y1 h0 h1 e }
end
end R
end Go.Proofs.YtldnfdghkdibmaaGreatDoor

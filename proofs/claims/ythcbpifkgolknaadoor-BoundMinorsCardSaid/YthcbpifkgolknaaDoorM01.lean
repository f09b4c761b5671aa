/-
  A part of the proof: an abstract machine for the program, its soundness, and what the functions compute (Def, Run).
  Conditions: none.
-/
import GoSem.Core.Code
import GoSem.Op.IntArith
import GoSem.Op.IntBits
import GoSem.Dispatch
set_option linter.unusedSectionVars false
set_option linter.unusedVariables false
set_option linter.unusedSimpArgs false
set_option linter.defProp false
namespace Tor
open Go
inductive AV where
  | u
  | bool (b:Bool)
  | int (k:IntKind) (n:Int)
  | a (x:Value)
  | nl
  | bx (o:Nat)
  | agg (l:List AV)
  | isl (l:List AV)
  | iptr (x:AV)
  | ptr (o g:Nat) (p:List (Nat × Nat))
  | sl (o g sz st len:Nat)
  | fn (f:Nat) (caps:List AV)
  | mp (o:Nat)
  | tup (l:List AV)
  deriving Inhabited
mutual
def AV.size:AV → Nat
  | .agg l=>AV.sizes l
  | _=>1
def AV.sizes:List AV → Nat
  | []=>0
  | x :: l=>x.size + AV.sizes l
end
mutual
def AV.hasRef:AV → Bool
  | .ptr _ _ _=>true
  | .sl _ _ _ _ _=>true
  | .mp _=>true
  | .bx _=>true
  | .iptr x=>x.hasRef
  | .agg l=>AV.hasRefs l
  | .fn _ l=>AV.hasRefs l
  | .tup l=>AV.hasRefs l
  | _=>false
def AV.hasRefs:List AV → Bool
  | []=>false
  | x :: l=>x.hasRef || AV.hasRefs l
end
mutual
def AV.under (n:Nat):AV → Bool
  | .ptr o _ _=>o < n
  | .sl o _ _ _ _=>o < n
  | .mp o=>o < n
  | .bx o=>o < n
  | .iptr x=>x.under n
  | .agg l=>AV.unders n l
  | .fn _ l=>AV.unders n l
  | .tup l=>AV.unders n l
  | _=>true
def AV.unders (n:Nat):List AV → Bool
  | []=>true
  | x :: l=>x.under n && AV.unders n l
end
mutual
def AV.solid:AV → Bool
  | .u=>false
  | .iptr x=>x.solid
  | .agg l=>AV.solids l
  | .isl l=>!AV.hasRefs l && AV.solids l
  | .fn _ l=>AV.solids l
  | .tup l=>AV.solids l
  | _=>true
def AV.solids:List AV → Bool
  | []=>true
  | x :: l=>x.solid && AV.solids l
end
def AV.isA:AV → Bool
  | .agg _=>true
  | _=>false
def AV.known:AV → Bool
  | .u=>false
  | .tup _=>false
  | _=>true
inductive AObj where
  | var (x:AV)
  | arr (g sz:Nat) (l:List AV)
  | map (kvs:List (Int × AV))
  | dead
  deriving Inhabited
abbrev Heap:=List AObj
def nav:AV → List (Nat × Nat) → Option AV
  | x,[]=>some x
  | .agg l,(i,off) :: p=>if AV.sizes (l.take i) = off then (match l[i]? with | some y=>nav y p | none=>none) else none
  | _,_=>none
def upd:AV → List (Nat × Nat) → AV → Option AV
  | x,[],y=>if x.size = y.size ∧ x.isA = y.isA then some y else none
  | .agg l,(i,off) :: p,y=>if AV.sizes (l.take i) = off then (match l[i]? with
      | some z=>(match upd z p y with | some z'=>some (.agg (l.set i z')) | none=>none)
      | none=>none) else none
  | _,_,_=>none
def objGet:AObj → Nat → List (Nat × Nat) → Option AV
  | .var x,g,p=>if g = 0 then nav x p else none
  | .arr g' sz l,g,(i,off) :: p=>if g = g' ∧ off = i * sz then (match l[i]? with | some y=>nav y p | none=>none) else none
  | _,_,_=>none
def objSet:AObj → Nat → List (Nat × Nat) → AV → Option AObj
  | .var x,g,p,y=>if g = 0 then (match upd x p y with | some x'=>some (.var x') | none=>none) else none
  | .arr g' sz l,g,(i,off) :: p,y=>if g = g' ∧ off = i * sz then (match l[i]? with
      | some z=>(match upd z p y with | some z'=>some (.arr g' sz (l.set i z')) | none=>none)
      | none=>none) else none
  | _,_,_,_=>none
def elems (H:Heap):AV → Option (List AV)
  | .isl l=>some l
  | .nl=>some []
  | .sl o g sz st len=>match H[o]? with
    | some (.arr g' sz' l)=>if g = g' ∧ sz = sz' ∧ st + len ≤ l.length then some ((l.drop st).take len) else none
    | _=>none
  | _=>none
def fz (n0:Nat) (H:Heap):Nat → AV → AV
  | 0,_=>.u
  | d + 1,.sl o g sz st len=>if o < n0 then .sl o g sz st len else (match elems H (.sl o g sz st len) with
      | some l=>.isl (l.map (fz n0 H d))
      | none=>.u)
  | d + 1,.ptr o g p=>if o < n0 then .ptr o g p else (match H[o]? with
      | some ob=>(match objGet ob g p with | some y=>.iptr (fz n0 H d y) | none=>.u)
      | none=>.u)
  | d + 1,.agg l=>.agg (l.map (fz n0 H d))
  | d + 1,.tup l=>.tup (l.map (fz n0 H d))
  | d + 1,.fn f l=>.fn f (l.map (fz n0 H d))
  | _ + 1,.mp o=>if o < n0 then .mp o else .u
  | _ + 1,.bx o=>if o < n0 then .bx o else .u
  | _ + 1,.nl=>.isl []
  | d + 1,.iptr x=>.iptr (fz n0 H d x)
  | _ + 1,x=>x
def fzDepth:Nat:=8
inductive AOpd where
  | l (i:Nat)
  | v (k:Nat)
  | c (x:AV)
  | f (g:Nat)
  deriving Inhabited
inductive XK where
  | idx (n sz:Nat) (ag:Bool)
  | isnil (ne:Bool)
  deriving Inhabited
inductive AOp where
  | move (x:AOpd)
  | frz (x:AOpd)
  | pick (c a b:AOpd)
  | box (im:Bool) (x:AOpd)
  | alloc (z:AV)
  | nils (sz:Nat)
  | build (z:List AV) (parts:List (Nat × AOpd))
  | bslice (mt:Bool) (sz:Nat) (z:AV) (n:Nat) (parts:List (Nat × AOpd))
  | load (ag:Bool) (sz:Nat) (x:AOpd)
  | store (sz:Nat) (ad x:AOpd)
  | nilCheck (x:AOpd)
  | bin (op:BinOp) (x y:AOpd)
  | binb (ne:Bool) (x y:AOpd)
  | un (op:UnOp) (x:AOpd)
  | conv (k:IntKind) (x:AOpd)
  | mkfn (g:Nat) (caps:List AOpd)
  | mkmap
  | mkslice (sz bytes:Nat) (z:AV) (n c:AOpd)
  | slice (sz:Nat) (x:AOpd) (lo hi mx:Option AOpd)
  | slice0 (sz:Nat) (x:AOpd)
  | fieldAddr (i off:Nat) (x:AOpd)
  | field (i off:Nat) (ag:Bool) (sz:Nat) (x:AOpd)
  | indexAddr (sz:Nat) (x i:AOpd)
  | indexArr (n sz:Nat) (x i:AOpd)
  | indexStr (x i:AOpd)
  | lookup (z:AV) (ok:Bool) (m k:AOpd)
  | mupd (m k x:AOpd)
  | mdel (m k:AOpd)
  | len (kd:Nat) (x:AOpd)
  | append (sz bytes:Nat) (x y:AOpd)
  | copy (sz:Nat) (x y:AOpd)
  | max (x:AOpd) (l:List AOpd)
  | min (x:AOpd) (l:List AOpd)
  | extract (i:Nat) (x:AOpd)
  | cn (z:AV)
  | cb (x:AOpd)
  | cs (sz:Nat) (c x:AOpd)
  | cl (ag:Bool) (sz:Nat) (x:AOpd)
  | ca (x:AOpd)
  | call (g:Nat) (args:List AOpd)
  | callv (f:AOpd) (args:List AOpd)
  | callp (gs:List Nat) (f:AOpd) (args:List AOpd)
  | x2 (k:XK) (x y:AOpd)
  deriving Inhabited
structure AOper where
  dst:Option Nat
  op:AOp
  guard:Option (Nat × Bool)
  deriving Inhabited
inductive AIR where
  | skip
  | region (ops:Unit → List AOper) (draw:Bool)
  | seq (x y:AIR)
  | cond (c:AOpd) (x y:AIR)
  | block (id:Nat) (x:AIR)
  | loop (gc:Bool) (keep:List Nat) (x:AIR)
  | exit (id:Nat)
  | scope (x:AIR)
  | label (l:Nat)
  | ret
  deriving Inhabited
inductive Ex where
  | normal
  | exit (id:Nat)
  | ret
  deriving DecidableEq,Inhabited
inductive Mode where
  | iso | con | shr | keep
  deriving DecidableEq,Inhabited
inductive ARes where
  | v (k:Nat)
  | cell (k:Nat) (ag:Bool) (sz:Nat)
  | c (k:Nat) (ag:Bool) (sz:Nat)
  deriving Inhabited
structure AFun where
  mode:Mode
  params:Nat
  slots:Nat
  results:List ARes
  body:AIR
  deriving Inhabited
structure St where
  vars:List AV
  heap:Heap
  rs:Bool
  deriving Inhabited
def ev (L:List AV) (vars:List AV):AOpd → AV
  | .l i=>L.getD i .u
  | .v k=>vars.getD k .u
  | .c x=>x
  | .f g=>.fn g []
def nothing:AV:=.tup []
def binInt (op:BinOp) (k:IntKind) (x y:Int):Option AV :=
  match op with
  | .add=>some (.int k (k.wrap (x + y)))
  | .sub=>some (.int k (k.wrap (x - y)))
  | .mul=>some (.int k (k.wrap (x * y)))
  | .quo=>if y = 0 then none else some (.int k (k.wrap (x.tdiv y)))
  | .rem=>if y = 0 then none else some (.int k (x.tmod y))
  | .and=>some (.int k (k.wrap (BitVec.ofInt k.bits x &&& BitVec.ofInt k.bits y).toNat))
  | .or=>some (.int k (k.wrap (BitVec.ofInt k.bits x ||| BitVec.ofInt k.bits y).toNat))
  | .xor=>some (.int k (k.wrap (BitVec.ofInt k.bits x ^^^ BitVec.ofInt k.bits y).toNat))
  | .andNot=>some (.int k (k.wrap (BitVec.ofInt k.bits x &&& ~~~(BitVec.ofInt k.bits y)).toNat))
  | .eql=>some (.bool (x == y))
  | .neq=>some (.bool (x != y))
  | .lss=>some (.bool (decide (x < y)))
  | .leq=>some (.bool (decide (x ≤ y)))
  | .gtr=>some (.bool (decide (x > y)))
  | .geq=>some (.bool (decide (x ≥ y)))
  | _=>none
def binAV (op:BinOp):AV → AV → Option AV
  | .int k x,.int k' y=>match op with
    | .shl=>if y < 0 then none else some (.int k (k.wrap (x * 2 ^ (Nat.min y.toNat k.bits))))
    | .shr=>if y < 0 then none else some (.int k (x.fdiv (2 ^ (Nat.min y.toNat k.bits))))
    | op=>if k = k' then binInt op k x y else none
  | _,_=>none
def binB (ne:Bool):AV → AV → Option AV
  | .bool a,.bool b=>some (.bool (if ne then a != b else a == b))
  | _,_=>none
def unAV (op:UnOp):AV → Option AV
  | .int k n=>match op with
    | .neg=>some (.int k (k.wrap (0 - n)))
    | .xor=>some (.int k (k.wrap (BitVec.ofInt k.bits (if k.signed then -1 else k.max) ^^^ BitVec.ofInt k.bits n).toNat))
    | _=>none
  | .bool b=>match op with
    | .not=>some (.bool !b)
    | _=>none
  | _=>none
def setAll (z:List AV):List (Nat × AV) → Option (List AV)
  | []=>some z
  | (i,x) :: r=>match z[i]? with
    | some y=>if y.size = x.size ∧ x.known = true then setAll (z.set i x) r else none
    | none=>none
def mfind (k:Int):List (Int × AV) → Option AV
  | []=>none
  | (j,x) :: r=>if k = j then some x else mfind k r
def mset (k:Int) (y:AV):List (Int × AV) → List (Int × AV)
  | []=>[(k,y)]
  | (j,x) :: r=>if k = j then (k,y) :: r else (j,x) :: mset k y r
def mdel (k:Int):List (Int × AV) → List (Int × AV)
  | []=>[]
  | (j,x) :: r=>if k = j then r else (j,x) :: mdel k r
def foldMM (mx:Bool):AV → List AV → Option AV
  | .int k m,[]=>some (.int k m)
  | .int k m,.int k' n :: r=>if k = k' then foldMM mx (.int k (if (if mx then n > m else n < m) then n else m)) r else none
  | _,_=>none
def headSize (sz:Nat):List AV → Bool
  | []=>true
  | x :: _=>x.size == sz
def maxLenA:Nat:=4294967296
abbrev CallF:=Nat → List AV → Heap → Option (AV × Heap × Bool)
def bound:Option AV → Int → Option Int
  | none,d=>some d
  | some (.int _ n),_=>some n
  | some _,_=>none
def ret (st:St):Option AV → Option (AV × St)
  | some x=>some (x,st)
  | none=>none
def eff (st:St):Option (AV × Heap × Bool) → Option (AV × St)
  | some (x,H,b)=>some (x,{ vars:=st.vars,heap:=H,rs:=st.rs || b })
  | none=>none
def doPick:AV → AV → AV → Option AV
  | .bool true,x,_=>some x
  | .bool false,_,y=>some y
  | _,_,_=>none
def bxOf:AV → AV
  | .mp o=>.bx o
  | y=>.iptr y
def doBox (im:Bool) (H:Heap) (y:AV):Option (AV × Heap × Bool) :=
  if y.known then
    if im then some (bxOf y,H,false) else some (.ptr H.length 0 [],H ++ [.var y],y.hasRef)
  else none
def doBuild:Option (List AV) → Option AV
  | some l=>some (.agg l)
  | none=>none
def doBslice (mt:Bool) (sz n:Nat) (H:Heap):Option (List AV) → Option (AV × Heap × Bool)
  | some l =>
    if mt then some (.sl H.length 0 sz 0 n,H ++ [.arr 0 sz l],AV.hasRefs l)
    else if AV.hasRefs l then none else some (.isl l,H,false)
  | none=>none
def fits (ag:Bool) (sz:Nat):Option AV → Option AV
  | some y=>if y.size = sz ∧ y.isA = ag then some y else none
  | none=>none
def getIn (g:Nat) (p:List (Nat × Nat)):Option AObj → Option AV
  | some ob=>objGet ob g p
  | none=>none
def doLoad (ag:Bool) (sz:Nat) (H:Heap):AV → Option AV
  | .iptr y=>fits ag sz (some y)
  | .ptr o g p=>fits ag sz (getIn g p H[o]?)
  | _=>none
def setIn (g:Nat) (p:List (Nat × Nat)) (y:AV):Option AObj → Option AObj
  | some ob=>objSet ob g p y
  | none=>none
def put (H:Heap) (o:Nat) (b:Bool):Option AObj → Option (AV × Heap × Bool)
  | some ob=>some (nothing,H.set o ob,b)
  | none=>none
def doStore (sz:Nat) (H:Heap):AV → AV → Option (AV × Heap × Bool)
  | .ptr o g p,y=>if y.known ∧ y.size = sz then put H o y.hasRef (setIn g p y H[o]?) else none
  | _,_=>none
def doNilCheck:AV → Option AV
  | .iptr y=>some (.iptr y)
  | .ptr o g p=>some (.ptr o g p)
  | .fn f l=>some (.fn f l)
  | _=>none
def doConv (k:IntKind):AV → Option AV
  | .int _ n=>some (.int k (k.wrap n))
  | _=>none
def capOk (x:AV):Bool:=x.known && x.size == 1 && !x.isA
def doMkfn (g:Nat) (l:List AV):Option AV:=if l.all capOk then some (.fn g l) else none
def doMkslice (sz bytes:Nat) (z:AV) (H:Heap):AV → AV → Option (AV × Heap × Bool)
  | .int .i64 n,.int .i64 c =>
    if 0 ≤ n ∧ n ≤ c ∧ c ≤ maxLenA ∧ bytes ≤ 4096 ∧ z.size = sz ∧ z.hasRef = false then
      some (.sl H.length 0 sz 0 n.toNat,H ++ [.arr 0 sz (List.replicate n.toNat z)],false)
    else none
  | _,_=>none
def sliceIn (n:Nat):Option Int → Option Int → Option Int → Option (Nat × Nat)
  | some i,some j,some k=>if 0 ≤ i ∧ i ≤ j ∧ j ≤ k ∧ k ≤ n then some (i.toNat,j.toNat) else none
  | _,_,_=>none
def cutI (l:List AV):Option (Nat × Nat) → Option AV
  | some (i,j)=>some (.isl ((l.take j).drop i))
  | none=>none
def cutS (o g sz s:Nat):Option (Nat × Nat) → Option AV
  | some (i,j)=>some (.sl o g sz (s + i) (j - i))
  | none=>none
def doSlice (sz:Nat) (lo hi mx:Option AV):AV → Option AV
  | .isl l=>if headSize sz l = true then cutI l (sliceIn l.length (bound lo 0) (bound hi l.length) (bound mx l.length)) else none
  | .sl o g sz' s len=>if sz' = sz then cutS o g sz' s (sliceIn len (bound lo 0) (bound hi len) (bound mx len)) else none
  | _=>none
def doSlice0 (sz:Nat) (H:Heap):AV → Option (AV × Heap × Bool)
  | .isl _=>some (.sl H.length 0 sz 0 0,H ++ [.arr 0 sz []],false)
  | .sl _ _ _ _ _=>some (.sl H.length 0 sz 0 0,H ++ [.arr 0 sz []],false)
  | .nl=>some (.sl H.length 0 sz 0 0,H ++ [.arr 0 sz []],false)
  | _=>none
def toIptr:Option AV → Option AV
  | some y=>some (.iptr y)
  | none=>none
def doFieldAddr (i off:Nat):AV → Option AV
  | .iptr (.agg l)=>if AV.sizes (l.take i) = off then toIptr l[i]? else none
  | .ptr o g p=>some (.ptr o g (p ++ [(i,off)]))
  | _=>none
def doField (i off:Nat) (ag:Bool) (sz:Nat):AV → Option AV
  | .agg l=>if AV.sizes (l.take i) = off then fits ag sz l[i]? else none
  | _=>none
def iptrOf (sz:Nat):Option AV → Option AV
  | some y=>if y.size = sz then some (.iptr y) else none
  | none=>none
def doIndexAddr (sz:Nat):AV → AV → Option AV
  | .isl l,.int _ n=>if 0 ≤ n then iptrOf sz l[n.toNat]? else none
  | .sl o g sz' s len,.int _ n=>if 0 ≤ n ∧ n < len ∧ sz = sz' then some (.ptr o g [(s + n.toNat,(s + n.toNat) * sz)]) else none
  | _,_=>none
def doIndexArr (m sz:Nat):AV → AV → Option AV
  | .iptr (.agg l),.int _ n=>if 0 ≤ n ∧ n < m ∧ AV.sizes (l.take n.toNat) = n.toNat * sz then iptrOf sz l[n.toNat]? else none
  | .ptr o g p,.int _ n=>if 0 ≤ n ∧ n < m then some (.ptr o g (p ++ [(n.toNat,n.toNat * sz)])) else none
  | _,_=>none
def byteOf:Option UInt8 → Option AV
  | some b=>some (.int .u8 b.toNat)
  | none=>none
def doIndexStr:AV → AV → Option AV
  | .a (.string s),.int _ n=>if 0 ≤ n then byteOf s[n.toNat]? else none
  | _,_=>none
def orElse (z:AV) (ok:Bool):Option AV → AV
  | some y=>if ok then .tup [y,.bool true] else y
  | none=>if ok then .tup [z,.bool false] else z
def lookIn (z:AV) (ok:Bool) (n:Int):Option AObj → Option AV
  | some (.map kvs)=>some (orElse z ok (mfind n kvs))
  | _=>none
def doLookup (z:AV) (ok:Bool) (H:Heap):AV → AV → Option AV
  | .mp o,.int .i64 n=>lookIn z ok n H[o]?
  | _,_=>none
def mupdIn (n:Int) (y:AV):Option AObj → Option AObj
  | some (.map kvs)=>some (.map (mset n y kvs))
  | _=>none
def doMupd (H:Heap):AV → AV → AV → Option (AV × Heap × Bool)
  | .mp o,.int .i64 n,y=>if y.known then put H o y.hasRef (mupdIn n y H[o]?) else none
  | _,_,_=>none
def mdelIn (n:Int):Option AObj → Option AObj
  | some (.map kvs)=>some (.map (mdel n kvs))
  | _=>none
def doMdel (H:Heap):AV → AV → Option (AV × Heap × Bool)
  | .mp o,.int .i64 n=>put H o false (mdelIn n H[o]?)
  | _,_=>none
def mlen:Option AObj → Option AV
  | some (.map kvs)=>some (.int .i64 kvs.length)
  | _=>none
def doLen (H:Heap):Nat → AV → Option AV
  | 0,.isl l=>some (.int .i64 l.length)
  | 0,.nl=>some (.int .i64 0)
  | 0,.sl _ _ _ _ len=>some (.int .i64 len)
  | 1,.mp o=>mlen H[o]?
  | 2,.a (.string s)=>some (.int .i64 s.size)
  | _,_=>none
def appIn (sz bytes:Nat) (H:Heap) (o g sz' s len g' sz'':Nat) (l l2:List AV):Option (AV × Heap × Bool) :=
  if g = g' ∧ sz' = sz ∧ sz'' = sz ∧ s + len ≤ l.length ∧ bytes ≤ 4096 ∧ headSize sz l2 = true ∧ len + l2.length ≤ maxLenA then
    some (.sl o (g + 1) sz 0 (len + l2.length),H.set o (.arr (g + 1) sz ((l.drop s).take len ++ l2)),AV.hasRefs l2)
  else none
def appTo (sz bytes:Nat) (H:Heap) (o g sz' s len:Nat):Option AObj → Option (List AV) → Option (AV × Heap × Bool)
  | some (.arr g' sz'' l),some l2 =>
    if g = g' ∧ sz' = sz ∧ sz'' = sz ∧ s + len = l.length ∧ bytes ≤ 4096 ∧ headSize sz l2 = true ∧ len + l2.length ≤ maxLenA then
      some (.sl o (g + 1) sz 0 (len + l2.length),H.set o (.arr (g + 1) sz (l.drop s ++ l2)),AV.hasRefs l2)
    else appIn sz bytes H o g sz' s len g' sz'' l l2
  | _,_=>none
theorem appTo_in {sz bytes H o g sz' s len g' sz'' l l2 r} (h:appTo sz bytes H o g sz' s len (some (.arr g' sz'' l)) (some l2) = some r) :
    appIn sz bytes H o g sz' s len g' sz'' l l2 = some r:=by
  simp only [appTo] at h
  split at h
  · rename_i hh
    obtain ⟨a1,a2,a3,a4,a5⟩:=hh
    rw [← h,appIn,if_pos ⟨a1,a2,a3,by omega,a5⟩,List.take_of_length_le (by simp; omega)]
  · exact h
def appNil (sz bytes:Nat) (H:Heap):Option (List AV) → Option (AV × Heap × Bool)
  | some l2=>if bytes ≤ 4096 ∧ headSize sz l2 = true ∧ l2.length ≤ maxLenA then
      some (.sl H.length 0 sz 0 l2.length,H ++ [.arr 0 sz l2],AV.hasRefs l2) else none
  | none=>none
def doAppend (sz bytes:Nat) (H:Heap):AV → AV → Option (AV × Heap × Bool)
  | .sl o g sz' s len,y=>appTo sz bytes H o g sz' s len H[o]? (elems H y)
  | .nl,y=>appNil sz bytes H (elems H y)
  | _,_=>none
def copyTo (sz:Nat) (H:Heap) (o g sz' s len:Nat):Option AObj → Option (List AV) → Option (AV × Heap × Bool)
  | some (.arr g' sz'' l),some l2 =>
    if g = g' ∧ sz' = sz ∧ sz'' = sz ∧ s + len ≤ l.length ∧ headSize sz l2 = true then
      some (.int .i64 (Nat.min l2.length len:Nat),H.set o (.arr g sz (l.take s ++ l2.take len ++ l.drop (s + Nat.min l2.length len))),AV.hasRefs l2)
    else none
  | _,_=>none
def doCopy (sz:Nat) (H:Heap):AV → AV → Option (AV × Heap × Bool)
  | .sl o g sz' s len,y=>copyTo sz H o g sz' s len H[o]? (elems H y)
  | _,_=>none
def doCn (z:AV):Option AV:=if z.known = true ∧ z.hasRef = false then some z else none
def doCb (x:AV):Option AV:=if x.known = true then some x else none
def doCs (sz:Nat) (c x:AV):Option AV:=if c.known = true ∧ c.size = sz ∧ x.known = true ∧ x.size = sz then some x else none
def doCl (ag:Bool) (sz:Nat) (x:AV):Option AV:=if x.known = true then fits ag sz (some x) else none
def doCa (x:AV):Option AV:=if x.known = true then some .u else none
def doExtract (i:Nat):AV → Option AV
  | .tup l=>l[i]?
  | _=>none
def doCallv (C:CallF) (H:Heap) (args:List AV):AV → Option (AV × Heap × Bool)
  | .fn g caps=>C g (args ++ caps) H
  | _=>none
def memN (g:Nat):List Nat → Bool
  | []=>false
  | x :: r=>if g = x then true else memN g r
def doCallp (C:CallF) (gs:List Nat) (H:Heap) (args:List AV):AV → Option (AV × Heap × Bool)
  | .fn g caps=>if memN g gs then C g (args ++ caps) H else none
  | _=>none
theorem doCallp_v {C gs H args v r} (h:doCallp C gs H args v = some r):doCallv C H args v = some r:=by
  cases v <;> try (cases h; done)
  simp only [doCallp] at h
  split at h
  · exact h
  · cases h
def doX:XK → AV → AV → Option AV
  | .idx m sz ag,.agg l,.int _ n=>if 0 ≤ n ∧ n < m ∧ AV.sizes (l.take n.toNat) = n.toNat * sz then fits ag sz l[n.toNat]? else none
  | .isnil ne,.nl,.nl=>some (.bool (!ne))
  | .isnil ne,.isl (_ :: _),.nl=>some (.bool ne)
  | .isnil ne,.sl _ _ _ _ (_ + 1),.nl=>some (.bool ne)
  | _,_,_=>none
def frzK (o:Nat) (H:Heap):Option (List AV) → Option (AV × Heap × Bool)
  | some l=>if AV.hasRefs l then none else some (.isl l,H.set o .dead,false)
  | none=>none
def doFrz (H:Heap):AV → Option (AV × Heap × Bool)
  | .sl o g sz st len=>frzK o H (elems H (.sl o g sz st len))
  | _=>none
def aop (C:CallF) (L:List AV) (st:St):AOp → Option (AV × St)
  | .move x=>ret st (some (ev L st.vars x))
  | .frz x=>eff st (doFrz st.heap (ev L st.vars x))
  | .pick c a b=>ret st (doPick (ev L st.vars c) (ev L st.vars a) (ev L st.vars b))
  | .box im x=>eff st (doBox im st.heap (ev L st.vars x))
  | .alloc z=>eff st (if z.known = true ∧ z.hasRef = false then some (.ptr st.heap.length 0 [],st.heap ++ [.var z],false) else none)
  | .nils sz=>eff st (some (.sl st.heap.length 0 sz 0 0,st.heap ++ [.arr 0 sz []],false))
  | .build z parts=>ret st (doBuild (setAll z (parts.map fun p=>(p.1,ev L st.vars p.2))))
  | .bslice mt sz z n parts=>eff st (doBslice mt sz n st.heap (if z.size = sz ∧ z.hasRef = false then setAll (List.replicate n z) (parts.map fun p=>(p.1,ev L st.vars p.2)) else none))
  | .load ag sz x=>ret st (doLoad ag sz st.heap (ev L st.vars x))
  | .store sz ad x=>eff st (doStore sz st.heap (ev L st.vars ad) (ev L st.vars x))
  | .nilCheck x=>ret st (doNilCheck (ev L st.vars x))
  | .bin op x y=>ret st (binAV op (ev L st.vars x) (ev L st.vars y))
  | .binb ne x y=>ret st (binB ne (ev L st.vars x) (ev L st.vars y))
  | .un op x=>ret st (unAV op (ev L st.vars x))
  | .conv k x=>ret st (doConv k (ev L st.vars x))
  | .mkfn g caps=>ret st (doMkfn g (caps.map (ev L st.vars)))
  | .mkmap=>eff st (some (.mp st.heap.length,st.heap ++ [.map []],false))
  | .mkslice sz bytes z n c=>eff st (doMkslice sz bytes z st.heap (ev L st.vars n) (ev L st.vars c))
  | .slice sz x lo hi mx=>ret st (doSlice sz (lo.map (ev L st.vars)) (hi.map (ev L st.vars)) (mx.map (ev L st.vars)) (ev L st.vars x))
  | .slice0 sz x=>eff st (doSlice0 sz st.heap (ev L st.vars x))
  | .fieldAddr i off x=>ret st (doFieldAddr i off (ev L st.vars x))
  | .field i off ag sz x=>ret st (doField i off ag sz (ev L st.vars x))
  | .indexAddr sz x i=>ret st (doIndexAddr sz (ev L st.vars x) (ev L st.vars i))
  | .indexArr m sz x i=>ret st (doIndexArr m sz (ev L st.vars x) (ev L st.vars i))
  | .indexStr x i=>ret st (doIndexStr (ev L st.vars x) (ev L st.vars i))
  | .lookup z ok m k=>ret st (doLookup z ok st.heap (ev L st.vars m) (ev L st.vars k))
  | .mupd m k x=>eff st (doMupd st.heap (ev L st.vars m) (ev L st.vars k) (ev L st.vars x))
  | .mdel m k=>eff st (doMdel st.heap (ev L st.vars m) (ev L st.vars k))
  | .len kd x=>ret st (doLen st.heap kd (ev L st.vars x))
  | .append sz bytes x y=>eff st (doAppend sz bytes st.heap (ev L st.vars x) (ev L st.vars y))
  | .copy sz x y=>eff st (doCopy sz st.heap (ev L st.vars x) (ev L st.vars y))
  | .max x l=>ret st (foldMM true (ev L st.vars x) (l.map (ev L st.vars)))
  | .min x l=>ret st (foldMM false (ev L st.vars x) (l.map (ev L st.vars)))
  | .extract i x=>ret st (doExtract i (ev L st.vars x))
  | .cn z=>ret st (doCn z)
  | .cb x=>ret st (doCb (ev L st.vars x))
  | .cs sz c x=>ret st (doCs sz (ev L st.vars c) (ev L st.vars x))
  | .cl ag sz x=>ret st (doCl ag sz (ev L st.vars x))
  | .ca x=>ret st (doCa (ev L st.vars x))
  | .call g args=>eff st (C g (args.map (ev L st.vars)) st.heap)
  | .callv f args=>eff st (doCallv C st.heap (args.map (ev L st.vars)) (ev L st.vars f))
  | .callp gs f args=>eff st (doCallp C gs st.heap (args.map (ev L st.vars)) (ev L st.vars f))
  | .x2 k x y=>ret st (doX k (ev L st.vars x) (ev L st.vars y))
def wantsK (b:Bool):AV → Option Bool
  | .bool c=>some (c == b)
  | .tup []=>some false
  | _=>none
def wants (L:List AV):Option (Nat × Bool) → Option Bool
  | none=>some true
  | some (j,b)=>wantsK b (L.getD j .u)
def setVar (st:St):Option Nat → AV → St
  | none,_=>st
  | some k,x=>{ vars:=st.vars.set k x,heap:=st.heap,rs:=st.rs }
def evalG (C:CallF) (ev1:List AV → St → Option St) (evS:Option (AV × St) → Option St) (o:AOper) (L:List AV) (st:St):Option Bool → Option St
  | some true=>evS (aop C L st o.op)
  | some false=>ev1 (L ++ [nothing]) (setVar st o.dst nothing)
  | none=>none
def evalK (ev1:List AV → St → Option St) (L:List AV) (d:Option Nat):Option (AV × St) → Option St
  | some (x,st')=>ev1 (L ++ [x]) (setVar st' d x)
  | none=>none
def evalOps (C:CallF):List AOper → List AV → St → Option St
  | [],_,st=>some st
  | o :: r,L,st=>evalG C (evalOps C r) (evalK (evalOps C r) L o.dst) o L st (wants L o.guard)
def gK (C:CallF) (o:AOper) (r:List AOper) (L:List AV) (st:St) (w:Option Bool):Option St :=
  evalG C (evalOps C r) (evalK (evalOps C r) L o.dst) o L st w
def kK (C:CallF) (r:List AOper) (L:List AV) (d:Option Nat) (x:Option (AV × St)):Option St:=evalK (evalOps C r) L d x
theorem evalOps_nil {C L st}:evalOps C [] L st = some st:=rfl
theorem evalOps_cons {C o r L st}:evalOps C (o :: r) L st = gK C o r L st (wants L o.guard):=rfl
theorem gK_t {C o r L st}:gK C o r L st (some true) = kK C r L o.dst (aop C L st o.op):=rfl
theorem gK_f {C o r L st}:gK C o r L st (some false) = evalOps C r (L ++ [nothing]) (setVar st o.dst nothing):=rfl
theorem kK_s {C r L d x st'}:kK C r L d (some (x,st')) = evalOps C r (L ++ [x]) (setVar st' d x):=rfl
def scrubV (n0:Nat) (gc:Bool) (keep:List Nat):Nat → List AV → List AV
  | _,[]=>[]
  | i,x :: l=>(if keep.contains i then (if gc && !x.under n0 then .u else x) else .u) :: scrubV n0 gc keep (i + 1) l
def clean (n0:Nat) (gc:Bool) (keep:List Nat) (st:St):Option St :=
  if gc && st.rs then none
  else some { vars:=scrubV n0 gc keep 0 st.vars,heap:=if gc then st.heap.take n0 else st.heap,rs:=st.rs }
def regionK:Option St → Option (Ex × St)
  | some st=>some (.normal,st)
  | none=>none
def seqK (R:AIR → St → Option (Ex × St)) (y:AIR):Option (Ex × St) → Option (Ex × St)
  | some (.normal,st)=>R y st
  | some (.exit j,st)=>some (.exit j,st)
  | some (.ret,st)=>some (.ret,st)
  | none=>none
def condK (R:AIR → St → Option (Ex × St)) (x y:AIR) (st:St):AV → Option (Ex × St)
  | .bool true=>R x st
  | .bool false=>R y st
  | _=>none
def blockK (id:Nat):Option (Ex × St) → Option (Ex × St)
  | some (.exit j,st)=>if j = id then some (.normal,st) else some (.exit j,st)
  | some (.normal,st)=>some (.normal,st)
  | some (.ret,st)=>some (.ret,st)
  | none=>none
def orRs (b:Bool) (st:St):St:={ vars:=st.vars,heap:=st.heap,rs:=b || st.rs }
def loopC (R:AIR → St → Option (Ex × St)) (c:AIR) (b:Bool):Option St → Option (Ex × St)
  | some st=>R c (orRs b st)
  | none=>none
def loopK (R:AIR → St → Option (Ex × St)) (c:AIR) (n0:Nat) (gc:Bool) (keep:List Nat) (b:Bool):Option (Ex × St) → Option (Ex × St)
  | some (.normal,st)=>loopC R c b (clean n0 gc keep st)
  | some (.exit j,st)=>some (.exit j,orRs b st)
  | some (.ret,st)=>some (.ret,orRs b st)
  | none=>none
def stepRun (C:CallF) (R:AIR → St → Option (Ex × St)):AIR → St → Option (Ex × St)
  | .skip,st=>some (.normal,st)
  | .region ops _,st=>regionK (evalOps C (ops ()) [] st)
  | .seq x y,st=>seqK R y (R x st)
  | .cond c x y,st=>condK R x y st (ev [] st.vars c)
  | .block id x,st=>blockK id (R x st)
  | .loop gc keep x,st=>loopK R (.loop gc keep x) st.heap.length gc keep st.rs (R x { vars:=st.vars,heap:=st.heap,rs:=false })
  | .exit id,st=>some (.exit id,st)
  | .scope x,st=>R x st
  | .label _,st=>some (.normal,st)
  | .ret,st=>some (.ret,st)
def resOf (H:Heap) (vars:List AV):ARes → Option AV
  | .v k=>some (vars.getD k .u)
  | .cell k ag sz=>doLoad ag sz H (vars.getD k .u)
  | .c k ag sz=>doCl ag sz (vars.getD k .u)
def consO:Option AV → Option (List AV) → Option (List AV)
  | some x,some xs=>some (x :: xs)
  | _,_=>none
def resList (H:Heap) (vars:List AV):List ARes → Option (List AV)
  | []=>some []
  | r :: l=>consO (resOf H vars r) (resList H vars l)
def AV.plain:AV → Bool
  | .tup _=>false
  | _=>true
def tupOf (l:List AV):Option AV:=if l.all AV.plain then some (.tup l) else none
def oneOf:Option (List AV) → Option AV
  | some [x]=>some x
  | some []=>some (.tup [])
  | some (x :: y :: l)=>tupOf (x :: y :: l)
  | none=>none
def resAll (st:St) (rs:List ARes):Option AV:=oneOf (resList st.heap st.vars rs)
def start (f:AFun) (args:List AV) (H:Heap):St :=
  { vars:=args ++ List.replicate (f.slots - args.length) .u,heap:=H,rs:=false }
def consume1 (xs:AV):Option (List AV × Heap) → Option (List AV × Heap)
  | some (l,H)=>some (xs :: l,H)
  | none=>none
def consume (H:Heap):List AV → Option (List AV × Heap)
  | []=>some ([],H)
  | .sl o g sz st len :: r=>match elems H (.sl o g sz st len) with
    | some l=>if AV.hasRefs l then none else consume1 (.isl l) (consume (H.set o .dead) r)
    | none=>none
  | x :: r=>consume1 x (consume H r)
def ended:Option (Ex × St) → Option St
  | some (.normal,st)=>some st
  | some (.ret,st)=>some st
  | _=>none
def shut (n0:Nat) (H:Heap):Option AV → Option AV
  | some r=>if (fz n0 H fzDepth r).under n0 = true ∧ (fz n0 H fzDepth r).solid = true then some (fz n0 H fzDepth r) else none
  | none=>none
def isoEnd (rs:List ARes):Option St → Option AV
  | some st=>shut 0 st.heap (resAll st rs)
  | none=>none
def runIso (R:AIR → St → Option (Ex × St)) (f:AFun) (args:List AV):Option AV :=
  if AV.hasRefs args then none else isoEnd f.results (ended (R f.body (start f args [])))
def withHeap (H:Heap) (b:Bool):Option AV → Option (AV × Heap × Bool)
  | some r=>some (r,H,b)
  | none=>none
def conCall (R:AIR → St → Option (Ex × St)) (f:AFun):Option (List AV × Heap) → Option (AV × Heap × Bool)
  | some (args,H)=>withHeap H false (runIso R f args)
  | none=>none
def shrEnd (n0:Nat) (rs:List ARes):Option St → Option (AV × Heap × Bool)
  | some st=>if st.rs then none else withHeap (st.heap.take n0) false (shut n0 st.heap (resAll st rs))
  | none=>none
def keepEnd (rs:List ARes):Option St → Option (AV × Heap × Bool)
  | some st=>withHeap st.heap st.rs (resAll st rs)
  | none=>none
def callFun (R:AIR → St → Option (Ex × St)) (args:List AV) (H:Heap) (f:AFun):Mode → Option (AV × Heap × Bool)
  | .iso=>withHeap H false (runIso R f args)
  | .con=>conCall R f (consume H args)
  | .shr=>shrEnd H.length f.results (ended (R f.body (start f args H)))
  | .keep=>keepEnd f.results (ended (R f.body (start f args H)))
def callG (R:AIR → St → Option (Ex × St)) (args:List AV) (H:Heap):Option AFun → Option (AV × Heap × Bool)
  | some f=>if args.length = f.params then callFun R args H f f.mode else none
  | none=>none
def callE (GP:Nat → Option AFun) (R:AIR → St → Option (Ex × St)) (g:Nat) (args:List AV) (H:Heap):Option (AV × Heap × Bool) → Option (AV × Heap × Bool)
  | some r=>some r
  | none=>callG R args H (GP g)
def stepCall (E:CallF) (GP:Nat → Option AFun) (R:AIR → St → Option (Ex × St)):CallF:=fun g args H=>callE GP R g args H (E g args H)
mutual
def runN (E:CallF) (GP:Nat → Option AFun):Nat → AIR → St → Option (Ex × St)
  | 0=>fun _ _=>none
  | n + 1=>stepRun (callN E GP n) (runN E GP n)
def callN (E:CallF) (GP:Nat → Option AFun):Nat → CallF
  | 0=>fun _ _ _=>none
  | n + 1=>stepCall E GP (runN E GP n)
end
def oN (x:AOp):AOper:=⟨none,x,none⟩
def oS (n:Nat) (x:AOp):AOper:=⟨some n,x,none⟩
def oT (g:Nat) (x:AOp):AOper:=⟨none,x,some (g,true)⟩
def oF (g:Nat) (x:AOp):AOper:=⟨none,x,some (g,false)⟩
def mV (k:Nat):AOper:=⟨none,.move (.v k),none⟩
def mL (k:Nat):AOper:=⟨none,.move (.l k),none⟩
def sL (n k:Nat):AOper:=⟨some n,.move (.l k),none⟩
def zI:AV:=.agg [.bool false,.isl []]
def AOpd.n (k:Int):AOpd:=.c (.int .i64 k)
end Tor
namespace Tor
open Go
def CLe (C C':CallF):Prop:=∀ g a H r,C g a H = some r → C' g a H = some r
def RLe (R R':AIR → St → Option (Ex × St)):Prop:=∀ c st r,R c st = some r → R' c st = some r
theorem eff_mono {st:St} {x y:Option (AV × Heap × Bool)} (h:∀ r,x = some r → y = some r) {r} (e:eff st x = some r):eff st y = some r:=by
  cases x with
  | none=>cases e
  | some q=>rw [h q rfl]; exact e
theorem aop_mono {C C':CallF} (h:CLe C C') {L:List AV} {st:St} {op:AOp} {r} (e:aop C L st op = some r):aop C' L st op = some r:=by
  cases op with
  | call g args=>exact eff_mono (h _ _ _) e
  | callv f args =>
    simp only [aop] at e ⊢
    refine eff_mono (fun q hq=>?_) e
    cases hf:ev L st.vars f with
    | fn g caps=>rw [hf] at hq; exact h _ _ _ _ hq
    | _=>rw [hf] at hq; cases hq
  | callp gs f args =>
    simp only [aop] at e ⊢
    refine eff_mono (fun q hq=>?_) e
    cases hf:ev L st.vars f with
    | fn g caps =>
      rw [hf] at hq
      simp only [doCallp] at hq ⊢
      split at hq
      · rename_i hm; rw [if_pos hm]; exact h _ _ _ _ hq
      · cases hq
    | _=>rw [hf] at hq; cases hq
  | _=>exact e
theorem evalOps_mono {C C':CallF} (h:CLe C C'):∀ (ops:List AOper) (L:List AV) (st r:St),evalOps C ops L st = some r → evalOps C' ops L st = some r:=by
  intro ops
  induction ops with
  | nil=>intro L st r e; exact e
  | cons o ops ih =>
    intro L st r e
    simp only [evalOps] at e ⊢
    cases hw:wants L o.guard with
    | none=>rw [hw] at e; cases e
    | some b =>
      rw [hw] at e
      cases b with
      | false=>exact ih _ _ _ e
      | true =>
        cases ha:aop C L st o.op with
        | none=>simp only [evalG,ha,evalK] at e; cases e
        | some q=>simp only [evalG,ha,aop_mono h ha,evalK] at e ⊢; exact ih _ _ _ e
theorem regionK_inv {x:Option St} {r} (e:regionK x = some r):∃ st,x = some st ∧ r = (.normal,st):=by
  cases x with
  | none=>cases e
  | some st=>exact ⟨st,rfl,(Option.some.inj e).symm⟩
theorem stepRun_mono {C C':CallF} {R R'} (hC:CLe C C') (hR:RLe R R'):RLe (stepRun C R) (stepRun C' R'):=by
  intro c st r e
  cases c with
  | region ops d =>
    simp only [stepRun] at e ⊢
    obtain ⟨st',h,rfl⟩:=regionK_inv e
    rw [evalOps_mono hC _ _ _ _ h]; rfl
  | seq x y =>
    simp only [stepRun] at e ⊢
    cases h:R x st with
    | none=>rw [h] at e; cases e
    | some q =>
      rw [h] at e; rw [hR _ _ _ h]
      obtain ⟨a,b⟩:=q
      cases a with
      | normal=>exact hR _ _ _ e
      | _=>exact e
  | cond c x y =>
    simp only [stepRun] at e ⊢
    cases h:ev [] st.vars c with
    | bool b=>rw [h] at e; cases b <;> exact hR _ _ _ e
    | _=>rw [h] at e; cases e
  | block id x =>
    simp only [stepRun] at e ⊢
    cases h:R x st with
    | none=>rw [h] at e; cases e
    | some q=>rw [h] at e; rw [hR _ _ _ h]; exact e
  | loop gc keep x =>
    simp only [stepRun] at e ⊢
    cases h:R x { vars:=st.vars,heap:=st.heap,rs:=false } with
    | none=>rw [h] at e; cases e
    | some q =>
      rw [h] at e; rw [hR _ _ _ h]
      obtain ⟨a,b⟩:=q
      cases a with
      | normal =>
        simp only [loopK] at e ⊢
        cases hc:clean st.heap.length gc keep b with
        | none=>rw [hc] at e; cases e
        | some s=>rw [hc] at e; exact hR _ _ _ e
      | _=>exact e
  | scope x=>exact hR _ _ _ e
  | _=>exact e
theorem runIso_mono {R R'} (hR:RLe R R') {f args r} (e:runIso R f args = some r):runIso R' f args = some r:=by
  unfold runIso at e ⊢
  split at e
  · cases e
  · rename_i hr
    rw [if_neg hr]
    cases h:R f.body (start f args []) with
    | none=>rw [h] at e; cases e
    | some q=>rw [h] at e; rw [hR _ _ _ h]; exact e
theorem withHeap_mono {H b} {x y:Option AV} (h:∀ r,x = some r → y = some r) {r} (e:withHeap H b x = some r):withHeap H b y = some r:=by
  cases x with
  | none=>cases e
  | some q=>rw [h q rfl]; exact e
theorem stepCall_mono {E GP} {R R'} (hR:RLe R R'):CLe (stepCall E GP R) (stepCall E GP R'):=by
  intro g a H r e
  unfold stepCall at e ⊢
  cases hE:E g a H with
  | some q=>rw [hE] at e; exact e
  | none =>
    rw [hE] at e
    simp only [callE] at e ⊢
    cases hf:GP g with
    | none=>rw [hf] at e; cases e
    | some f =>
      rw [hf] at e
      simp only [callG] at e ⊢
      by_cases hlen:a.length = f.params
      case neg=>rw [if_neg hlen] at e; cases e
      rw [if_pos hlen] at e
      simp only [hlen,if_true]
      cases hm:f.mode with
      | iso=>rw [hm] at e; exact withHeap_mono (fun _=>runIso_mono hR) e
      | con =>
        rw [hm] at e
        simp only [callFun] at e ⊢
        cases hc:consume H a with
        | none=>rw [hc] at e; cases e
        | some q=>rw [hc] at e; exact withHeap_mono (fun _=>runIso_mono hR) e
      | shr =>
        rw [hm] at e
        simp only [callFun] at e ⊢
        cases h:R f.body (start f a H) with
        | none=>rw [h] at e; cases e
        | some q=>rw [h] at e; rw [hR _ _ _ h]; exact e
      | keep =>
        rw [hm] at e
        simp only [callFun] at e ⊢
        cases h:R f.body (start f a H) with
        | none=>rw [h] at e; cases e
        | some q=>rw [h] at e; rw [hR _ _ _ h]; exact e
theorem runN_succ (E GP) (n:Nat):RLe (runN E GP n) (runN E GP (n + 1)) ∧ CLe (callN E GP n) (callN E GP (n + 1)):=by
  induction n with
  | zero =>
    constructor
    · intro c st r e; rw [runN] at e; cases e
    · intro g a H r e; rw [callN] at e; cases e
  | succ n ih =>
    constructor
    · intro c st r e
      rw [runN] at e ⊢
      exact stepRun_mono ih.2 ih.1 _ _ _ e
    · intro g a H r e
      rw [callN] at e ⊢
      exact stepCall_mono ih.1 _ _ _ _ e
theorem runN_le {E GP} {n m:Nat} (h:n ≤ m):RLe (runN E GP n) (runN E GP m):=by
  induction h with
  | refl=>exact fun _ _ _ e=>e
  | step _ ih=>exact fun c st r e=>(runN_succ E GP _).1 _ _ _ (ih c st r e)
theorem callN_le {E GP} {n m:Nat} (h:n ≤ m):CLe (callN E GP n) (callN E GP m):=by
  induction h with
  | refl=>exact fun _ _ _ _ e=>e
  | step _ ih=>exact fun g a H r e=>(runN_succ E GP _).2 _ _ _ _ (ih g a H r e)
open Classical in
noncomputable def run (E:CallF) (GP:Nat → Option AFun) (c:AIR) (st:St):Option (Ex × St) :=
  if h:∃ n r,runN E GP n c st = some r then some (Classical.choose (Classical.choose_spec h)) else none
open Classical in
noncomputable def call (E:CallF) (GP:Nat → Option AFun):CallF:=fun g a H =>
  if h:∃ n r,callN E GP n g a H = some r then some (Classical.choose (Classical.choose_spec h)) else none
section
variable {E:CallF} {GP:Nat → Option AFun}
theorem run_of {n c st r} (h:runN E GP n c st = some r):run E GP c st = some r:=by
  have hex:∃ n r,runN E GP n c st = some r:=⟨n,r,h⟩
  unfold run
  rw [dif_pos hex]
  have h2:=Classical.choose_spec (Classical.choose_spec hex)
  have a:=runN_le (Nat.le_max_left n (Classical.choose hex)) _ _ _ h
  have b:=runN_le (Nat.le_max_right n (Classical.choose hex)) _ _ _ h2
  rw [a] at b
  exact b.symm
theorem run_ex {c st r} (h:run E GP c st = some r):∃ n,runN E GP n c st = some r:=by
  unfold run at h
  split at h
  · rename_i hex
    have h2:=Classical.choose_spec (Classical.choose_spec hex)
    rw [Option.some.inj h] at h2
    exact ⟨_,h2⟩
  · cases h
theorem call_of {n g a H r} (h:callN E GP n g a H = some r):call E GP g a H = some r:=by
  have hex:∃ n r,callN E GP n g a H = some r:=⟨n,r,h⟩
  unfold call
  rw [dif_pos hex]
  have h2:=Classical.choose_spec (Classical.choose_spec hex)
  have a:=callN_le (Nat.le_max_left n (Classical.choose hex)) _ _ _ _ h
  have b:=callN_le (Nat.le_max_right n (Classical.choose hex)) _ _ _ _ h2
  rw [a] at b
  exact b.symm
theorem call_ex {g a H r} (h:call E GP g a H = some r):∃ n,callN E GP n g a H = some r:=by
  unfold call at h
  split at h
  · rename_i hex
    have h2:=Classical.choose_spec (Classical.choose_spec hex)
    rw [Option.some.inj h] at h2
    exact ⟨_,h2⟩
  · cases h
theorem runN_run (n:Nat):RLe (runN E GP n) (run E GP):=fun _ _ _ h=>run_of h
theorem callN_call (n:Nat):CLe (callN E GP n) (call E GP):=fun _ _ _ _ h=>call_of h
theorem eff_cont {st:St} {x:Option (AV × Heap × Bool)} {y:Nat → Option (AV × Heap × Bool)} (h:∀ r,x = some r → ∃ n,y n = some r) {r} (e:eff st x = some r):∃ n,eff st (y n) = some r:=by
  cases x with
  | none=>cases e
  | some q=>obtain ⟨n,hn⟩:=h q rfl; exact ⟨n,by rw [hn]; exact e⟩
theorem aop_cont {L st op r} (e:aop (call E GP) L st op = some r):∃ n,aop (callN E GP n) L st op = some r:=by
  cases op with
  | call g args=>exact eff_cont (y:=fun n=>callN E GP n _ _ _) (fun _ hq=>call_ex hq) e
  | callv f args =>
    simp only [aop] at e ⊢
    refine eff_cont (y:=fun n=>doCallv (callN E GP n) _ _ _) (fun q hq=>?_) e
    cases hf:ev L st.vars f with
    | fn g caps=>rw [hf] at hq; exact call_ex hq
    | _=>rw [hf] at hq; cases hq
  | callp gs f args =>
    simp only [aop] at e ⊢
    refine eff_cont (y:=fun n=>doCallp (callN E GP n) gs _ _ _) (fun q hq=>?_) e
    cases hf:ev L st.vars f with
    | fn g caps =>
      rw [hf] at hq
      simp only [doCallp] at hq ⊢
      split at hq
      · rename_i hm
        obtain ⟨n,hn⟩:=call_ex hq
        exact ⟨n,by rw [if_pos hm]; exact hn⟩
      · cases hq
    | _=>rw [hf] at hq; cases hq
  | _=>exact ⟨0,e⟩
theorem evalOps_cont:∀ (ops:List AOper) (L:List AV) (st r:St),evalOps (call E GP) ops L st = some r → ∃ n,evalOps (callN E GP n) ops L st = some r:=by
  intro ops
  induction ops with
  | nil=>intro L st r e; exact ⟨0,e⟩
  | cons o ops ih =>
    intro L st r e
    simp only [evalOps] at e ⊢
    cases hw:wants L o.guard with
    | none=>rw [hw] at e; cases e
    | some b =>
      rw [hw] at e
      cases b with
      | false=>exact ih _ _ _ e
      | true =>
        cases ha:aop (call E GP) L st o.op with
        | none=>simp only [evalG,ha,evalK] at e; cases e
        | some q =>
          simp only [evalG,ha,evalK] at e
          obtain ⟨n,hn⟩:=aop_cont ha
          obtain ⟨m,hm⟩:=ih _ _ _ e
          refine ⟨max n m,?_⟩
          simp only [evalG,aop_mono (callN_le (Nat.le_max_left n m)) hn,evalK]
          exact evalOps_mono (callN_le (Nat.le_max_right n m)) _ _ _ _ hm
theorem stepRun_cont {c st r} (e:stepRun (call E GP) (run E GP) c st = some r):∃ n,stepRun (callN E GP n) (runN E GP n) c st = some r:=by
  cases c with
  | region ops d =>
    simp only [stepRun] at e ⊢
    obtain ⟨st',h,rfl⟩:=regionK_inv e
    obtain ⟨n,hn⟩:=evalOps_cont _ _ _ _ h
    exact ⟨n,by rw [hn]; rfl⟩
  | seq x y =>
    simp only [stepRun] at e ⊢
    cases h:run E GP x st with
    | none=>rw [h] at e; cases e
    | some q =>
      rw [h] at e
      obtain ⟨n,hn⟩:=run_ex h
      obtain ⟨a,b⟩:=q
      cases a with
      | normal =>
        obtain ⟨m,hm⟩:=run_ex e
        exact ⟨max n m,by rw [runN_le (Nat.le_max_left n m) _ _ _ hn]; exact runN_le (Nat.le_max_right n m) _ _ _ hm⟩
      | _=>exact ⟨n,by rw [hn]; exact e⟩
  | cond c x y =>
    simp only [stepRun] at e ⊢
    cases h:ev [] st.vars c with
    | bool b=>rw [h] at e; cases b <;> exact run_ex e
    | _=>rw [h] at e; cases e
  | block id x =>
    simp only [stepRun] at e ⊢
    cases h:run E GP x st with
    | none=>rw [h] at e; cases e
    | some q=>rw [h] at e; obtain ⟨n,hn⟩:=run_ex h; exact ⟨n,by rw [hn]; exact e⟩
  | loop gc keep x =>
    simp only [stepRun] at e ⊢
    cases h:run E GP x { vars:=st.vars,heap:=st.heap,rs:=false } with
    | none=>rw [h] at e; cases e
    | some q =>
      rw [h] at e
      obtain ⟨n,hn⟩:=run_ex h
      obtain ⟨a,b⟩:=q
      cases a with
      | normal =>
        simp only [loopK] at e
        cases hc:clean st.heap.length gc keep b with
        | none=>rw [hc] at e; cases e
        | some s =>
          rw [hc] at e
          obtain ⟨m,hm⟩:=run_ex e
          refine ⟨max n m,?_⟩
          rw [runN_le (Nat.le_max_left n m) _ _ _ hn]
          simp only [loopK,hc]
          exact runN_le (Nat.le_max_right n m) _ _ _ hm
      | _=>exact ⟨n,by rw [hn]; exact e⟩
  | scope x=>exact run_ex e
  | _=>exact ⟨0,e⟩
theorem run_eq (c:AIR) (st:St):run E GP c st = stepRun (call E GP) (run E GP) c st:=by
  apply Option.ext
  intro r
  constructor
  · intro h
    obtain ⟨n,hn⟩:=run_ex h
    have h2:=(runN_succ E GP n).1 _ _ _ hn
    rw [runN] at h2
    exact stepRun_mono (callN_call n) (runN_run n) _ _ _ h2
  · intro h
    obtain ⟨n,hn⟩:=stepRun_cont h
    refine run_of (n:=n + 1) ?_
    rw [runN]
    exact hn
theorem runIso_cont {f args r} (e:runIso (run E GP) f args = some r):∃ n,runIso (runN E GP n) f args = some r:=by
  unfold runIso at e ⊢
  split at e
  · cases e
  · rename_i hr
    cases h:run E GP f.body (start f args []) with
    | none=>rw [h] at e; cases e
    | some q=>obtain ⟨n,hn⟩:=run_ex h; exact ⟨n,by rw [if_neg hr,hn]; rw [h] at e; exact e⟩
theorem withHeap_cont {H b} {x:Option AV} {y:Nat → Option AV} (h:∀ r,x = some r → ∃ n,y n = some r) {r} (e:withHeap H b x = some r):∃ n,withHeap H b (y n) = some r:=by
  cases x with
  | none=>cases e
  | some q=>obtain ⟨n,hn⟩:=h q rfl; exact ⟨n,by rw [hn]; exact e⟩
theorem stepCall_cont {g a H r} (e:stepCall E GP (run E GP) g a H = some r):∃ n,stepCall E GP (runN E GP n) g a H = some r:=by
  unfold stepCall at e ⊢
  cases hE:E g a H with
  | some q=>rw [hE] at e; exact ⟨0,e⟩
  | none =>
    rw [hE] at e
    simp only [callE] at e ⊢
    cases hf:GP g with
    | none=>rw [hf] at e; cases e
    | some f =>
      rw [hf] at e
      simp only [callG] at e ⊢
      by_cases hlen:a.length = f.params
      case neg=>rw [if_neg hlen] at e; cases e
      rw [if_pos hlen] at e
      simp only [hlen,if_true]
      cases hm:f.mode with
      | iso=>rw [hm] at e; exact withHeap_cont (y:=fun n=>runIso (runN E GP n) f a) (fun _ h=>runIso_cont h) e
      | con =>
        rw [hm] at e
        simp only [callFun] at e ⊢
        cases hc:consume H a with
        | none=>rw [hc] at e; cases e
        | some q=>rw [hc] at e; exact withHeap_cont (y:=fun n=>runIso (runN E GP n) f q.1) (fun _ h=>runIso_cont h) e
      | shr =>
        rw [hm] at e
        simp only [callFun] at e ⊢
        cases h:run E GP f.body (start f a H) with
        | none=>rw [h] at e; cases e
        | some q=>rw [h] at e; obtain ⟨n,hn⟩:=run_ex h; exact ⟨n,by rw [hn]; exact e⟩
      | keep =>
        rw [hm] at e
        simp only [callFun] at e ⊢
        cases h:run E GP f.body (start f a H) with
        | none=>rw [h] at e; cases e
        | some q=>rw [h] at e; obtain ⟨n,hn⟩:=run_ex h; exact ⟨n,by rw [hn]; exact e⟩
theorem call_eq (g:Nat) (a:List AV) (H:Heap):call E GP g a H = stepCall E GP (run E GP) g a H:=by
  apply Option.ext
  intro r
  constructor
  · intro h
    obtain ⟨n,hn⟩:=call_ex h
    have h2:=(runN_succ E GP n).2 _ _ _ _ hn
    rw [callN] at h2
    exact stepCall_mono (runN_run n) _ _ _ _ h2
  · intro h
    obtain ⟨n,hn⟩:=stepCall_cont h
    refine call_of (n:=n + 1) ?_
    rw [callN]
    exact hn
theorem run_skip (st:St):run E GP .skip st = some (.normal,st):=run_eq _ _
theorem run_region (ops d st):run E GP (.region ops d) st = regionK (evalOps (call E GP) (ops ()) [] st):=run_eq _ _
theorem run_seq (x y st):run E GP (.seq x y) st = seqK (run E GP) y (run E GP x st):=run_eq _ _
theorem run_cond (c x y st):run E GP (.cond c x y) st = condK (run E GP) x y st (ev [] st.vars c):=run_eq _ _
theorem run_block (id x st):run E GP (.block id x) st = blockK id (run E GP x st):=run_eq _ _
theorem run_exit (id:Nat) (st:St):run E GP (.exit id) st = some (.exit id,st):=run_eq _ _
theorem run_label (id:Nat) (st:St):run E GP (.label id) st = some (.normal,st):=run_eq _ _
theorem run_scope (x st):run E GP (.scope x) st = run E GP x st:=run_eq _ _
theorem run_ret (st:St):run E GP .ret st = some (.ret,st):=run_eq _ _
theorem run_loop (gc keep x st):run E GP (.loop gc keep x) st = loopK (run E GP) (.loop gc keep x) st.heap.length gc keep st.rs (run E GP x { vars:=st.vars,heap:=st.heap,rs:=false }):=run_eq _ _
theorem call_ext {g a H r} (h:E g a H = some r):call E GP g a H = some r:=by
  rw [call_eq,stepCall,h,callE]
theorem call_fun {g a H f} (h:E g a H = none) (hf:GP g = some f) (hl:a.length = f.params):call E GP g a H = callFun (run E GP) a H f f.mode:=by
  rw [call_eq,stepCall,h,callE,hf,callG,if_pos hl]
end
abbrev Lr (l:AIR):AIR → Prop
  | .loop gc keep b=>∀ {E GP} st,run E GP l st = loopK (run E GP) l st.heap.length gc keep st.rs (run E GP b { vars:=st.vars,heap:=st.heap,rs:=false })
  | _=>True
end Tor

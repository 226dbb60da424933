/- The interpreter over an abstract heap: definitions, the relation to the memory of the model, pure operations. -/
import GoSem.Core.View
import GoSem.Core.Utf8
import GoSem.Core.Region
import GoSem.Machine.Frame
import Derived.WalkKit
import Derived.Laws.StructEq
set_option linter.unusedSimpArgs false
set_option linter.unusedVariables false
set_option maxHeartbeats 2000000
open Nat renaming reduceLeDiff → zPT, reduceEqDiff → zPU, reduceAdd → zPV
open Int renaming reduceBEq → zPW, reduceLT → zPX, reduceLE → zPY, reduceGT → zPZ, reduceGE → zPa, reduceEq → zPb, reduceAdd → zPc, reduceSub → zPd, reduceMul → zPe
section
namespace Go.X
inductive PT (α:Type) where
 | leaf
 | node (l:PT α) (v:Option α) (r:PT α)
namespace PT
variable {α:Type}
def path:Nat→Nat→List Bool
 | 0,_=>[]
 | f+1,n=>cond (n.beq 0) [] ((n % 2).beq 1::path f (n / 2))
def getP:PT α→List Bool→Option α
 | .leaf,_=>none
 | .node _ v _,[]=>v
 | .node _ _ r,true::bs=>getP r bs
 | .node l _ _,false::bs=>getP l bs
def setP:PT α→List Bool→α→PT α
 | .leaf,[],a=>.node .leaf (some a) .leaf
 | .node l _ r,[],a=>.node l (some a) r
 | .leaf,true::bs,a=>.node .leaf none (setP .leaf bs a)
 | .leaf,false::bs,a=>.node (setP .leaf bs a) none .leaf
 | .node l v r,true::bs,a=>.node l v (setP r bs a)
 | .node l v r,false::bs,a=>.node (setP l bs a) v r
def get (t:PT α) (n:Nat):Option α:=getP t (path n n)
def set (t:PT α) (n:Nat) (a:α):PT α:=setP t (path n n) a
end PT
inductive EqK where
 | int
 | str
 | bool
 | cells (ks:List Nat)
 | nptr
 | nslice
 | nmap
 | nfunc
 | ifnil
 deriving Inhabited
inductive POp where
 | mov (x:Operand)
 | pick (c a b:Operand)
 | build (zero:List Value) (zBo:List (Nat×Nat×Operand))
 | nilc (x:Operand)
 | bin (op:BinOp) (x y:Operand)
 | eql (neg:Bool) (k:EqK) (x y:Operand)
 | un (op:UnOp) (x:Operand)
 | cint (k:IntKind) (x:Operand)
 | mkiface (t:TypeId) (x:Operand)
 | mkfn (fn:Fn) (first caps:List Operand)
 | slcS (x:Operand) (lo hi:Option Operand)
 | slc (esz:Nat) (x:Operand) (lo hi mx:Option Operand)
 | slcA (n esz:Nat) (x:Operand) (lo hi mx:Option Operand)
 | faddr (off:Nat) (x:Operand)
 | field1 (off:Nat) (x:Operand)
 | fieldN (off n:Nat) (x:Operand)
 | iaddrA (n esz:Nat) (x i:Operand)
 | iaddrS (esz:Nat) (x i:Operand)
 | idxA1 (n:Nat) (x i:Operand)
 | idxAN (n esz:Nat) (x i:Operand)
 | idxS (x i:Operand)
 | tassert (want:TypeId) (zero:Value) (ok:Bool) (x:Operand)
 | ext (x:Operand) (i:Nat)
 | lenS (x:Operand)
 | lenV (x:Operand)
 | lenC (n:Nat)
 | minmax (isMax:Bool) (x:Operand) (xs:List Operand)
 | stop (why:String)
inductive ROp where
 | load1 (a:Operand)
 | loadN (n:Nat) (a:Operand)
 | cb2s (x:Operand)
 | lookup (zero:Value) (ok:Bool) (k:EqK) (m key:Operand)
 | lenM (x:Operand)
inductive AOp where
 | alloc (zero:List Value)
 | box (x:Operand)
 | bslice (cells:List Value) (len:Nat) (zBo:List (Nat×Nat×Operand))
 | cs2b (x:Operand)
 | mkmap
 | mkslice (zero:List Value) (bytes:Nat) (l c:Operand)
inductive EOp where
 | store (n:Nat) (a v:Operand)
 | mupd (k:EqK) (m key v:Operand)
 | mdel (k:EqK) (m key:Operand)
 | append (esz bytes:Nat) (s x:Operand)
 | copy (esz:Nat) (d s:Operand)
 | clear (zero:List Value) (x:Operand)
 | mkiter (zu:Bool) (x:Operand)
 | next (zu:Bool) (x:Operand)
 | mentry (zero:Value) (k:EqK) (m key:Operand)
 | estore (m stamp v:Operand)
inductive XOp where
 | p (o:POp)
 | r (o:ROp)
 | a (o:AOp)
 | e (o:EOp)
 | call (f:Operand) (args:List Operand)
structure XO where
 dst:Option Nat
 op:XOp
 guard:Option (Nat×Bool)
inductive XC where
 | skip
 | ops (l:List XO)
 | draw (l:List XO) (zC2:List (Nat×Nat×List Nat))
 | seq (a b:XC)
 | cond (c:Operand) (a b:XC)
 | block (id:Nat) (c:XC)
 | loop (c:XC)
 | scope (c:XC)
 | exit (id:Nat)
 | ret
 | rng (f:Operand) (ps:List Nat) (n:Nat) (asg body:XC)
inductive XE where
 | normal
 | exit (id:Nat)
 | ret
inductive XR where
 | tmp (t:Nat)
 | cell1 (t:Nat)
 | cellN (t n:Nat)
structure XF where
 nargs:Nat
 results:List XR
 body:XC
abbrev Fr:=PT Value
structure zAT where
 cells:List Value
 fam:Nat
 delta:Nat
 ro:Bool
structure XL where
 t:Fr
 n:Nat
 ps:List Nat
 asg:XC
 body:XC
 st:LoopState
 pend:Option XE
inductive zAv where
 | str (s:ByteArray) (pos:Nat)
 | map (m:Option Nat) (since:Nat) (seen:List Nat) (last:Nat)
inductive Blk where
 | cells (c:zAT)
 | map (es:List (Value×Value)) (st:Option (List Nat×Nat))
 | loop (r:XL)
 | iter (o:zAv)
structure Fam where
 since:Nat
 who:Nat
 top:Nat
structure Heap where
 next:Nat
 blks:PT Blk
 fams:PT Fam
def Heap.empty:Heap:=⟨0,.leaf,.leaf⟩
def Heap.okCells (h:Heap) (b:Nat):Option zAT :=
 match h.blks.get b with
 | some (.cells c) =>
  match h.fams.get c.fam with
  | some f=>cond (b.beq f.who||f.since.ble b) (some c) none
  | none=>none
 | _=>none
def Heap.load (h:Heap) (a:Addr):Option Value :=
 match h.okCells a.block with
 | some c=>c.cells[a.off]?
 | none=>none
def zAD (l:List Value) (off n:Nat):Option (List Value) :=
 cond ((off+n).ble l.length) (some ((l.drop off).take n)) none
def Heap.loadN (h:Heap) (a:Addr) (n:Nat):Option (List Value) :=
 match h.okCells a.block with
 | some c=>zAD c.cells a.off n
 | none=>none
def putN (l:List Value) (off:Nat) (vs:List Value):List Value:=l.take off++vs++l.drop (off+vs.length)
def oneC:Value→Bool
 | .agg _|.tuple _=>false
 | _=>true
def Heap.store (h:Heap) (a:Addr) (vs:List Value):Option Heap :=
 match h.okCells a.block with
 | some c =>
  cond (!c.ro&&(a.off+vs.length).ble c.cells.length&&vs.all oneC)
   (match h.fams.get c.fam with
    | some f=>some { h with blks:=h.blks.set a.block (.cells { c with cells:=putN c.cells a.off vs }),fams:=h.fams.set c.fam { f with since:=h.next,who:=a.block } }
    | none=>none) none
 | none=>none
def Heap.new (h:Heap) (cells:List Value):Heap :=
 { next:=h.next+1,blks:=h.blks.set h.next (.cells ⟨cells,h.next,0,false⟩),fams:=h.fams.set h.next ⟨0,h.next,cells.length⟩ }
def Heap.newMap (h:Heap):Heap:={ h with next:=h.next+1,blks:=h.blks.set h.next (.map [] (some ([],0))) }
def Heap.setBlk (h:Heap) (r:Nat) (b:Blk):Heap:={ h with blks:=h.blks.set r b }
def Heap.pushIter (h:Heap) (o:zAv):Heap:={ h with next:=h.next+1,blks:=h.blks.set h.next (.iter o) }
def Heap.pushLoop (h:Heap) (r:XL):Heap:={ h with next:=h.next+1,blks:=h.blks.set h.next (.loop r) }
def zj:Nat:=140737488355328
def Heap.append (h:Heap) (esz bytes:Nat) (s:Value) (n:Nat) (new:List Value):Option (Value×Heap) :=
 match s with
 | .slice base len cap =>
  if n=0 then some (s,h) else
  if esz=0∨bytes=0∨zj<(len+n)*bytes∨new.length≠n*esz∨new.all oneC=false then none else
  match base with
  | none=>some (.slice (some ⟨h.next,0,some esz⟩) (len+n) (len+n),h.new new)
  | some a =>
   match h.okCells a.block with
   | some c =>
    if len+n≤cap then
     match h.store ⟨a.block,a.off+len*esz,none⟩ new with
     | some h=>some (.slice (some a) (len+n) cap,h)
     | none=>none
    else if c.cells.length<a.off+len*esz then none else
    match a.spot with
    | none=>some (.slice (some ⟨h.next,0,some esz⟩) (len+n) (len+n),h.new ((c.cells.drop a.off).take (len*esz)++new))
    | some q =>
     if q≠esz∨c.ro then none else
     match h.fams.get c.fam with
     | some f =>
      some (.slice (some ⟨h.next,0,some esz⟩) (len+n) (len+n),
       { next:=h.next+1,blks:=h.blks.set h.next (.cells ⟨(c.cells.drop a.off).take (len*esz)++new,c.fam,c.delta+a.off,false⟩),fams:=h.fams.set c.fam (if f.top≤c.delta+(a.off+len*esz) then { f with top:=c.delta+(a.off+len*esz)+new.length } else ⟨h.next,h.next,c.delta+(a.off+len*esz)+new.length⟩) })
     | none=>none
   | none=>none
 | _=>none
def Fr.get (t:Fr) (i:Nat):Value:=(PT.get t i).getD (.tuple #[])
def Fr.eval (t:Fr):Operand→Value
 | .tmp i=>t.get i
 | .const v=>v
 | .func f=>.func (.func f) #[] #[]
 | .global g=>.pointer (some ⟨g,0,none⟩)
def Fr.put (t:Fr):Option Nat→Value→Fr
 | some d,v=>PT.set t d v
 | none,_=>t
def zi:Value→List Value
 | .agg cs=>cs.toList
 | v=>[v]
def fill (t:Fr) (cells:List Value):List (Nat×Nat×Operand)→Option (List Value)
 | []=>some cells
 | (off,size,x)::rest =>
  let vs:=zi (t.eval x)
  if vs.length=size∧off+size≤cells.length then fill t (putN cells off vs) rest else none
def eqK1:Nat→Value→Value→Option Bool
 | 0,.int k a,.int k' b=>if k=k' then some (a==b) else none
 | 1,.string a,.string b=>some (a.data.toList==b.data.toList)
 | 2,.bool a,.bool b=>some (a==b)
 | _,_,_=>none
def zz:List Nat→List Value→List Value→Option Bool
 | [],[],[]=>some true
 | k::ks,a::asx,b::bs=>match eqK1 k a b,zz ks asx bs with
  | some x,some y=>some (x&&y)
  | _,_=>none
 | _,_,_=>none
def eqX:EqK→Value→Value→Option Bool
 | .int,.int k a,.int k' b=>if k=k' then some (a==b) else none
 | .str,.string a,.string b=>some (a.data.toList==b.data.toList)
 | .bool,.bool a,.bool b=>some (a==b)
 | .cells ks,.agg xs,.agg ys=>zz ks xs.toList ys.toList
 | .nptr,.pointer a,.pointer b=>if a.isNone||b.isNone then some (a.isNone&&b.isNone) else none
 | .nslice,.slice a _ _,.slice b _ _=>if a.isNone||b.isNone then some (a.isNone&&b.isNone) else none
 | .nmap,.map a,.map b=>if a.isNone||b.isNone then some (a.isNone&&b.isNone) else none
 | .nfunc,.nilFunc,.nilFunc=>some true
 | .nfunc,.nilFunc,.func ..=>some false
 | .nfunc,.func ..,.nilFunc=>some false
 | .ifnil,.nilIface,.nilIface=>some true
 | .ifnil,.nilIface,.iface _ _=>some false
 | .ifnil,.iface _ _,.nilIface=>some false
 | _,_,_=>none
def zY (l:List UInt8):ByteArray:=⟨l.toArray⟩
def zAz:List Value→Option (List UInt8)
 | []=>some []
 | .int .u8 n::rest=>match zAz rest with|some r=>some (UInt8.ofNat n.toNat::r)|none=>none
 | _::_=>none
def zV (l:List UInt8):List Value:=l.map fun b=>.int .u8 b.toNat
def ltI:Int→Int→Bool
 | .ofNat a,.ofNat b=>Nat.blt a b
 | .ofNat _,.negSucc _=>false
 | .negSucc _,.ofNat _=>true
 | .negSucc a,.negSucc b=>Nat.blt b a
theorem zBL (a b:Int):ltI a b=decide (a<b):=by
 cases a<;>cases b<;>simp only[ltI,Nat.blt]<;>rw[Bool.eq_iff_iff]<;>simp[Nat.ble_eq]<;>omega
def leI (a b:Int):Bool:=!ltI b a
theorem zDE (a b:Int):leI a b=decide (a≤b):=by
 unfold leI
 rw[zBL,←decide_not,decide_eq_decide]
 omega
def zn (op:BinOp) (k:IntKind) (a b:Int):Option Value :=
 match op with
 | .add=>some (.int k (k.wrap (a+b)))
 | .sub=>some (.int k (k.wrap (a - b)))
 | .mul=>some (.int k (k.wrap (a*b)))
 | .quo=>if b=0 then none else some (.int k (k.wrap (a.tdiv b)))
 | .rem=>if b=0 then none else some (.int k (a.tmod b))
 | .and=>some (.int k (k.wrap (BitVec.ofInt k.bits a &&& BitVec.ofInt k.bits b).toNat))
 | .or=>some (.int k (k.wrap (BitVec.ofInt k.bits a ||| BitVec.ofInt k.bits b).toNat))
 | .xor=>some (.int k (k.wrap (BitVec.ofInt k.bits a ^^^ BitVec.ofInt k.bits b).toNat))
 | .andNot=>some (.int k (k.wrap (BitVec.ofInt k.bits a &&& ~~~ BitVec.ofInt k.bits b).toNat))
 | .eql=>some (.bool (a==b))
 | .neq=>some (.bool (a != b))
 | .lss=>some (.bool (ltI a b))
 | .leq=>some (.bool (leI a b))
 | .gtr=>some (.bool (ltI b a))
 | .geq=>some (.bool (leI b a))
 | _=>none
def zB2 (op:BinOp) (a b:List UInt8):Option Value :=
 match op with
 | .add=>if zj<a.length+b.length then none else some (.string (zY (a++b)))
 | .eql=>some (.bool (a==b))
 | .neq=>some (.bool (!(a==b)))
 | .lss=>some (.bool (Op.bytesLess a b))
 | .leq=>some (.bool (Op.bytesLess a b||a==b))
 | .gtr=>some (.bool (!(Op.bytesLess a b||a==b)))
 | .geq=>some (.bool (!Op.bytesLess a b))
 | _=>none
def binX (op:BinOp) (x y:Value):Option Value :=
 match x,y with
 | .int k a,.int k' b=>match op with
  | .shl=>if b<0 then none else some (.int k (k.wrap (a*2 ^ (min b.toNat k.bits))))
  | .shr=>if b<0 then none else some (.int k (a.fdiv (2 ^ (min b.toNat k.bits))))
  | _=>if k=k' then zn op k a b else none
 | .string a,.string b=>zB2 op a.data.toList b.data.toList
 | _,_=>none
def unX (op:UnOp) (x:Value):Option Value :=
 match op,x with
 | .neg,.int k n=>some (.int k (k.wrap (0 - n)))
 | .xor,.int k n=>some (.int k (k.wrap (BitVec.ofInt k.bits (if k.signed then -1 else k.max) ^^^ BitVec.ofInt k.bits n).toNat))
 | .not,.bool b=>some (.bool (!b))
 | _,_=>none
def zAx (t:Fr) (x:Option Operand) (dflt y:Nat):Option Nat :=
 match x with
 | none=>some dflt
 | some x=>match t.eval x with
  | .int _ i=>if 0≤i∧i≤y then some i.toNat else none
  | _=>none
def zAy (t:Fr) (len cap:Nat) (lo hi mx:Option Operand):Option (Nat×Nat×Nat) :=
 match zAx t mx cap cap with
 | some m=>match zAx t hi len m with
  | some h=>match zAx t lo 0 h with
   | some l=>some (l,h,m)
   | none=>none
  | none=>none
 | none=>none
def zA1 (k:EqK) (key:Value):List (Value×Value)→Nat→Option (Option (Nat×Value))
 | [],_=>some none
 | (x,v)::es,i=>match eqX k key x with
  | some true=>some (some (i,v))
  | some false=>zA1 k key es (i+1)
  | none=>none
def mm (isMax:Bool):Value→Value→Option Value
 | .int k x,.int k' y=>if k=k' then some (.int k (if isMax then (if y>x then y else x) else (if y<x then y else x))) else none
 | _,_=>none
def mms (t:Fr) (isMax:Bool) (x:Value):List Operand→Option Value
 | []=>some x
 | y::ys=>match mm isMax x (t.eval y) with|some z=>mms t isMax z ys|none=>none
def zB (t:Fr):POp→Option Value
 | .mov x=>some (t.eval x)
 | .pick c a b=>match t.eval c with|.bool b'=>some (if b' then t.eval a else t.eval b)|_=>none
 | .build zero ps=>match fill t zero ps with|some cs=>some (.agg cs.toArray)|none=>none
 | .nilc x=>match t.eval x with|.pointer (some a)=>some (.pointer (some a))|.func (.func f) a b=>some (.func (.func f) a b)|_=>none
 | .bin op x y=>binX op (t.eval x) (t.eval y)
 | .eql neg k x y=>match eqX k (t.eval x) (t.eval y) with|some b=>some (.bool (if neg then !b else b))|none=>none
 | .un op x=>unX op (t.eval x)
 | .cint k x=>match t.eval x with|.int _ n=>some (.int k (k.wrap n))|_=>none
 | .mkiface ty x=>some (.iface ty (t.eval x))
 | .mkfn fn first caps=>some (.func fn (first.map t.eval).toArray (caps.map t.eval).toArray)
 | .slcS x lo hi=>match t.eval x with
  | .string s=>match zAy t s.data.toList.length s.data.toList.length lo hi none with
   | some (l,e,_)=>some (.string (zY ((s.data.toList.drop l).take (e - l))))
   | none=>none
  | _=>none
 | .slc esz x lo hi mx=>match t.eval x with
  | .slice a len cap=>match zAy t len cap lo hi mx with
   | some (l,e,m)=>(match a with
    | none=>some (.slice none (e - l) (m - l))
    | some a=>if a.spot=none∨a.spot=some esz then some (.slice (some ⟨a.block,a.off+l*esz,a.spot⟩) (e - l) (m - l)) else none)
   | none=>none
  | _=>none
 | .slcA n esz x lo hi mx=>match t.eval x with
  | .pointer (some a)=>match zAy t n n lo hi mx with
   | some (l,e,m)=>some (.slice (some ⟨a.block,a.off+l*esz,a.spot⟩) (e - l) (m - l))
   | none=>none
  | _=>none
 | .faddr off x=>match t.eval x with|.pointer (some a)=>some (.pointer (some ⟨a.block,a.off+off,a.spot⟩))|_=>none
 | .field1 off x=>match t.eval x with|.agg cs=>cs.toList[off]?|_=>none
 | .fieldN off n x=>match t.eval x with|.agg cs=>(match zAD cs.toList off n with|some l=>some (.agg l.toArray)|none=>none)|_=>none
 | .iaddrA n esz x i=>match t.eval x,t.eval i with
  | .pointer (some a),.int _ i=>if 0≤i∧i<n then some (.pointer (some ⟨a.block,a.off+i.toNat*esz,a.spot⟩)) else none
  | _,_=>none
 | .iaddrS esz x i=>match t.eval x,t.eval i with
  | .slice (some a) len _,.int _ i=>if 0≤i∧i<len then some (.pointer (some ⟨a.block,a.off+i.toNat*esz,none⟩)) else none
  | _,_=>none
 | .idxA1 n x i=>match t.eval x,t.eval i with
  | .agg cs,.int _ i=>if 0≤i∧i<n then cs.toList[i.toNat]? else none
  | _,_=>none
 | .idxAN n esz x i=>match t.eval x,t.eval i with
  | .agg cs,.int _ i=>if 0≤i∧i<n then (match zAD cs.toList (i.toNat*esz) esz with|some l=>some (.agg l.toArray)|none=>none) else none
  | _,_=>none
 | .idxS x i=>match t.eval x,t.eval i with
  | .string s,.int _ i=>if 0≤i then (match s.data.toList[i.toNat]? with|some b=>some (.int .u8 b.toNat)|none=>none) else none
  | _,_=>none
 | .tassert want zero ok x=>match t.eval x with
  | .iface u v=>if u=want then some (if ok then .tuple #[v,.bool true] else v) else if ok then some (.tuple #[zero,.bool false]) else none
  | .nilIface=>if ok then some (.tuple #[zero,.bool false]) else none
  | _=>none
 | .ext x i=>match t.eval x with|.tuple vs=>vs.toList[i]?|_=>none
 | .lenS x=>match t.eval x with
  | .string s=>some (.int .i64 s.data.toList.length)
  | _=>none
 | .lenV x=>match t.eval x with
  | .slice _ n _=>some (.int .i64 n)
  | _=>none
 | .lenC n=>some (.int .i64 n)
 | .minmax isMax x xs=>mms t isMax (t.eval x) xs
 | .stop _=>none
def zh (t:Fr) (h:Heap):ROp→Option Value
 | .load1 a=>match t.eval a with|.pointer (some a)=>h.load a|_=>none
 | .loadN n a=>match t.eval a with|.pointer (some a)=>(match h.loadN a n with|some l=>some (.agg l.toArray)|none=>none)|_=>none
 | .cb2s x=>match t.eval x with
  | .slice none _ _=>some (.string (zY []))
  | .slice (some a) len _=>if len=0 then some (.string (zY [])) else match h.loadN a len with
   | some l=>(match zAz l with|some bs=>some (.string (zY bs))|none=>none)
   | none=>none
  | _=>none
 | .lookup zero ok k m key=>match t.eval m with
  | .map none=>some (if ok then .tuple #[zero,.bool false] else zero)
  | .map (some r)=>(match h.blks.get r with
   | some (.map es _)=>(match zA1 k (t.eval key) es 0 with
    | some (some (_,v))=>some (if ok then .tuple #[v,.bool true] else v)
    | some none=>some (if ok then .tuple #[zero,.bool false] else zero)
    | none=>none)
   | _=>none)
  | _=>none
 | .lenM x=>match t.eval x with
  | .map none=>some (.int .i64 0)
  | .map (some r)=>match h.blks.get r with|some (.map es _)=>some (.int .i64 es.length)|_=>none
  | _=>none
inductive NBlk where
 | cells (l:List Value)
 | bytes (l:List Value)
 | map
inductive Mk where
 | ptr
 | slice (len cap:Nat) (sp:Option Nat)
 | map
def Mk.val (id:Nat):Mk→Value
 | .ptr=>.pointer (some ⟨id,0,none⟩)
 | .slice l c sp=>.slice (some ⟨id,0,sp⟩) l c
 | .map=>.map (some id)
def Heap.newB (h:Heap) (cells:List Value):Heap :=
 { next:=h.next+1,blks:=h.blks.set h.next (.cells ⟨cells,h.next,0,false⟩),fams:=h.fams.set h.next ⟨h.next+1,h.next,cells.length⟩ }
def Heap.push (h:Heap):NBlk→Heap
 | .cells l=>h.new l
 | .bytes l=>h.newB l
 | .map=>h.newMap
def Heap.pushAt (h:Heap) (id:Nat):NBlk→Heap
 | .cells l=>{ h with blks:=h.blks.set id (.cells ⟨l,id,0,false⟩),fams:=h.fams.set id ⟨0,id,l.length⟩ }
 | .bytes l=>{ h with blks:=h.blks.set id (.cells ⟨l,id,0,false⟩),fams:=h.fams.set id ⟨id+1,id,l.length⟩ }
 | .map=>{ h with blks:=h.blks.set id (.map [] (some ([],0))) }
def zAA (t:Fr):AOp→Option (NBlk×Mk)
 | .alloc zero=>some (.cells zero,.ptr)
 | .box x=>some (.cells (zi (t.eval x)),.ptr)
 | .bslice cells len ps=>match fill t cells ps with|some cs=>some (.cells cs,.slice len len none)|none=>none
 | .cs2b x=>match t.eval x with
  | .string s=>some (.bytes (zV s.data.toList),.slice s.data.toList.length s.data.toList.length (some 1))
  | _=>none
 | .mkmap=>some (.map,.map)
 | .mkslice zero bytes l c=>match t.eval l,t.eval c with
  | .int _ l,.int _ c=>if 0≤l∧l≤c∧c.toNat*bytes≤zj∧c<140737488355328 then some (.cells (List.replicate c.toNat zero).flatten,.slice l.toNat c.toNat none) else none
  | _,_=>none
def srcX (t:Fr) (h:Heap) (esz:Nat) (s:Operand):Option (Nat×List Value):=match t.eval s with
 | .string str=>if esz=1 then some (str.data.toList.length,zV str.data.toList) else none
 | .slice none n _=>if n=0 then some (0,[]) else none
 | .slice (some a) n _=>if n=0 then some (0,[]) else match h.loadN a (n*esz) with|some l=>some (n,l)|none=>none
 | _=>none
def stAdd:Option (List Nat×Nat)→Option (List Nat×Nat)
 | some (l,c)=>some (l++[c],c+1)
 | none=>none
def stDel (st:Option (List Nat×Nat)) (i:Nat):Option (List Nat×Nat):=match st with
 | some (l,c)=>some (l.eraseIdx i,c)
 | none=>none
def zCb (seen:List Nat):List (Value×Value)→List Nat→List (Value×Value×Nat)
 | e::es,b::bs=>if seen.contains b then zCb seen es bs else (e.1,e.2,b)::zCb seen es bs
 | _,_=>[]
def nextX (h:Heap) (A:Nat) (zu:Bool):Option (Value×Heap):=match h.blks.get A with
 | some (.iter (.str s pos))=>if zu then (if pos<s.size then some (.tuple #[.bool true,.int .i64 (pos:Int),.int .i32 (Utf8.decode s pos).1],h.setBlk A (.iter (.str s (pos+(Utf8.decode s pos).2)))) else some (.tuple #[.bool false],h)) else none
 | some (.iter (.map none _ _ _))=>if zu then none else some (.tuple #[.bool false],h)
 | some (.iter (.map (some r) since seen last))=>if zu then none else (match h.blks.get r with
  | some (.map es (some (bs,c)))=>if !seen.isEmpty&&!es.isEmpty&&bs.all (fun b=>last≤b) then none else (match zCb seen es bs with
   | []=>some (.tuple #[.bool false],h)
   | [(k,v,b)]=>if b<since then some (.tuple #[.bool true,k,v],h.setBlk A (.iter (.map (some r) since (seen++[b]) c))) else none
   | _=>none)
  | some (.map [] none)=>some (.tuple #[.bool false],h)
  | _=>none)
 | _=>none
def effX (t:Fr) (h:Heap):EOp→Option (Value×Heap)
 | .store n a v=>match t.eval a with
  | .pointer (some a)=>if (zi (t.eval v)).length=n then (if n=0 then none else match h.store a (zi (t.eval v)) with|some h=>some (.tuple #[],h)|none=>none) else none
  | _=>none
 | .mupd k m key v=>match t.eval m with
  | .map (some r)=>match h.blks.get r with
   | some (.map es st)=>(match zA1 k (t.eval key) es 0 with
    | some (some (i,_))=>some (.tuple #[],h.setBlk r (.map (es.set i (t.eval key,t.eval v)) st))
    | some none=>some (.tuple #[],h.setBlk r (.map (es++[(t.eval key,t.eval v)]) (stAdd st)))
    | none=>none)
   | _=>none
  | _=>none
 | .mdel k m key=>match t.eval m with
  | .map (some r)=>match h.blks.get r with
   | some (.map es st)=>(match zA1 k (t.eval key) es 0 with
    | some (some (i,_))=>some (.tuple #[],h.setBlk r (.map (es.eraseIdx i) (stDel st i)))
    | some none=>some (.tuple #[],h)
    | none=>none)
   | _=>none
  | .map none=>some (.tuple #[],h)
  | _=>none
 | .append esz bytes s x=>match t.eval x with
  | .string str=>h.append esz bytes (t.eval s) str.data.toList.length (zV str.data.toList)
  | .slice none n _=>if n=0 then h.append esz bytes (t.eval s) 0 [] else none
  | .slice (some a) n _=>if n=0 then h.append esz bytes (t.eval s) 0 [] else match h.loadN a (n*esz) with
   | some l=>h.append esz bytes (t.eval s) n l
   | none=>none
  | _=>none
 | .copy esz d s=>match t.eval d,srcX t h esz s with
  | .slice base dl _,some (n,l) =>
   if min n dl=0 then some (.int .i64 0,h) else
   (match base with
   | some a=>(match h.store ⟨a.block,a.off,none⟩ (l.take (min n dl*esz)) with|some h=>some (.int .i64 ((min n dl:Nat):Int),h)|none=>none)
   | none=>none)
  | _,_=>none
 | .clear zero x=>match t.eval x with
  | .slice none n _=>if n=0 then some (.tuple #[],h) else none
  | .slice (some a) n _=>if n=0 then some (.tuple #[],h) else (match h.store ⟨a.block,a.off,none⟩ (List.replicate n zero).flatten with|some h=>some (.tuple #[],h)|none=>none)
  | _=>none
 | .mkiter zu x=>match zu,t.eval x with
  | true,.string s=>some (.pointer (some ⟨h.next,0,none⟩),h.pushIter (.str s 0))
  | false,.map none=>some (.pointer (some ⟨h.next,0,none⟩),h.pushIter (.map none 0 [] 0))
  | false,.map (some r)=>(match h.blks.get r with
   | some (.map _ (some (_,c)))=>some (.pointer (some ⟨h.next,0,none⟩),h.pushIter (.map (some r) c [] c))
   | _=>none)
  | _,_=>none
 | .next zu x=>match t.eval x with
  | .pointer (some a)=>if a.off=0 then nextX h a.block zu else none
  | _=>none
 | .mentry zero k m key=>match t.eval m with
  | .map (some r)=>match h.blks.get r with
   | some (.map es (some (bs,c)))=>(match zA1 k (t.eval key) es 0 with
    | some (some (i,v))=>(match es[i]? with
     | some en=>some (.tuple #[v,.int .i64 (bs.getD i 0:Nat)],h.setBlk r (.map (es.set i (t.eval key,en.2)) (some (bs,c))))
     | none=>none)
    | some none=>some (.tuple #[zero,.int .i64 (c:Int)],h.setBlk r (.map (es++[(t.eval key,zero)]) (some (bs++[c],c+1))))
    | none=>none)
   | _=>none
  | _=>none
 | .estore m stamp v=>match t.eval m,t.eval stamp with
  | .map (some r),.int .i64 n=>match h.blks.get r with
   | some (.map es (some (bs,c)))=>(match bs.findIdx? (fun b:Nat=>((b:Nat):Int)==n) with
    | some i=>(match es[i]? with
     | some e=>some (.tuple #[],h.setBlk r (.map (es.set i (e.1,t.eval v)) (some (bs,c))))
     | none=>none)
    | none=>none)
   | _=>none
  | _,_=>none
structure CallF where
 fn:Nat→List Value→Heap→Option (Value×Heap)
 yl:Nat→List Value→Heap→Option (Value×Heap)
instance:CoeFun CallF (fun _=>Nat→List Value→Heap→Option (Value×Heap)):=⟨CallF.fn⟩
def zk (cf:CallF) (t:Fr) (h:Heap):XOp→Option (Value×Heap)
 | .p o=>match zB t o with|some v=>some (v,h)|none=>none
 | .r o=>match zh t h o with|some v=>some (v,h)|none=>none
 | .a o=>match zAA t o with|some (b,mk)=>some (mk.val h.next,h.push b)|none=>none
 | .e o=>effX t h o
 | .call f args=>match t.eval f with
  | .func (.func g) first caps=>cf g (first.toList++args.map t.eval++caps.toList) h
  | .func (.yield l) first caps=>cond (first.isEmpty&&caps.isEmpty) (cf.yl l (args.map t.eval) h) none
  | _=>none
def zq (t:Fr):Option (Nat×Bool)→Bool
 | none=>true
 | some (s,want)=>match t.get s with|.bool b=>b==want|_=>false
def zm (cf:CallF) (t:Fr) (h:Heap) (o:XO):Option (Value×Heap) :=
 cond (zq t o.guard) (zk cf t h o.op) (some (.tuple #[],h))
def opsX (cf:CallF):List XO→Fr→Heap→Option (Fr×Heap)
 | [],t,h=>some (t,h)
 | o::rest,t,h=>match zm cf t h o with
  | some (v,h')=>opsX cf rest (t.put o.dst v) h'
  | none=>none
def opsT (cf:CallF):List XO→Fr→Heap→Option (List (Fr×Heap))
 | [],t,h=>some [(t,h)]
 | o::rest,t,h=>match zm cf t h o with
  | some (v,h')=>match opsT cf rest (t.put o.dst v) h' with
   | some l=>some ((t,h)::l)
   | none=>none
  | none=>none
mutual
def zc:Value→Value→Bool
 | .bool a,.bool b=>a==b
 | .int k a,.int k' b=>decide (k=k')&&a==b
 | .float k a,.float k' b=>decide (k=k')&&a==b
 | .complex k a c,.complex k' b d=>decide (k=k')&&a==b&&c==d
 | .chan a,.chan b=>a==b
 | .string a,.string b=>a.data.toList==b.data.toList
 | .pointer a,.pointer b=>a==b
 | .slice a l c,.slice b l' c'=>a==b&&l==l'&&c==c'
 | .map a,.map b=>a==b
 | .nilFunc,.nilFunc=>true
 | .nilIface,.nilIface=>true
 | .iface t v,.iface t' v'=>t==t'&&zc v v'
 | .func f a b,.func f' a' b'=>decide (f=f')&&zBt a a'&&zBt b b'
 | .agg a,.agg b=>zBt a b
 | .tuple a,.tuple b=>zBt a b
 | _,_=>false
def zBt:Array Value→Array Value→Bool
 | ⟨a⟩,⟨b⟩=>zBv a b
def zBv:List Value→List Value→Bool
 | [],[]=>true
 | a::asx,b::bs=>zc a b&&zBv asx bs
 | _,_=>false
end
def zAf (l:List XO) (tr:List (Fr×Heap)):List Nat→Heap→Heap
 | [],h=>h
 | i::is,h=>match l[i]?,tr[i]? with
  | some o,some (t,hi)=>match o.op with
   | .a op=>cond (zq t o.guard) (match zAA t op with
    | some (b,_)=>(zAf l tr is h).pushAt hi.next b
    | none=>zAf l tr is h) (zAf l tr is h)
   | _=>zAf l tr is h
  | _,_=>zAf l tr is h
def zAG (l:List XO) (tr:List (Fr×Heap)) (j k:Nat) (pend:List Nat):Bool :=
 match l[j]?,tr[j]?,tr[k]? with
 | some o,some (t,h),some (_,h') =>
  match o.op with
  | .r op=>!zq t o.guard||(match zh t h op,zh t (zAf l tr pend h') op with|some v,some v'=>zc v v'|_,_=>false)
  | _=>false
 | _,_,_=>false
def zAN (l:List XO) (tr:List (Fr×Heap)) (cs:List (Nat×Nat×List Nat)):Bool :=
 cs.all fun c=>zAG l tr c.1 c.2.1 c.2.2
def resX (t:Fr) (h:Heap):XR→Option Value
 | .tmp i=>some (t.get i)
 | .cell1 i=>match t.get i with|.pointer (some a)=>h.load a|_=>none
 | .cellN i n=>match t.get i with|.pointer (some a)=>(match h.loadN a n with|some l=>some (.agg l.toArray)|none=>none)|_=>none
def zBS (t:Fr) (h:Heap):List XR→Option (List Value)
 | []=>some []
 | r::rs=>match resX t h r,zBS t h rs with|some v,some vs=>some (v::vs)|_,_=>none
def zDa:List Value→Value
 | [v]=>v
 | vs=>.tuple vs.toArray
def z0 (t:Fr) (h:Heap) (rs:List XR):Option Value :=
 match zBS t h rs with|some vs=>some (zDa vs)|none=>none
def zs:List Value→Nat→Fr→Fr
 | [],_,t=>t
 | v::vs,i,t=>zs vs (i+1) (PT.set t i v)
structure Prog where
 code:Nat→Option XF
 prim:Nat→Option (List Value→Heap→Option (Value×Heap))
def zAM (P:Prog) (run:XC→Fr→Heap→Option (XE×Fr×Heap)) (f:Nat) (args:List Value) (h:Heap):Option (Value×Heap) :=
 match P.prim f with
 | some g=>g args h
 | none=>match P.code f with
  | some F=>if args.length=F.nargs then match run F.body (zs args 0 .leaf) h with
   | some (.normal,t,h')=>(match z0 t h' F.results with|some v=>some (v,h')|none=>none)
   | some (.ret,t,h')=>(match z0 t h' F.results with|some v=>some (v,h')|none=>none)
   | _=>none
   else none
  | none=>none
def zBT:List Nat→List Value→Fr→Fr
 | p::ps,v::vs,t=>zBT ps vs (PT.set t p v)
 | _,_,t=>t
def XE.jump:XE→Option XE
 | .normal=>none
 | e=>some e
def zA9 (run:XC→Fr→Heap→Option (XE×Fr×Heap)) (A:Nat) (args:List Value) (h:Heap):Option (Value×Heap) :=
 match h.blks.get A with
 | some (.loop r)=>if args.length=r.ps.length then match run r.asg (zBT r.ps args r.t) h with
  | some (.normal,t2,h2)=>match h2.blks.get A with
   | some (.loop r2)=>if r2.st=.ready then match run r.body t2 (h2.setBlk A (.loop { r2 with st:=.busy })) with
    | some (e,_,h3)=>match h3.blks.get A with
     | some (.loop r3)=>some (.bool e.jump.isNone,h3.setBlk A (.loop { r3 with st:=if e.jump.isNone then .ready else .done,pend:=e.jump }))
     | _=>none
    | none=>none
    else none
   | _=>none
  | _=>none
  else none
 | _=>none
def zAc (P:Prog) (run:XC→Fr→Heap→Option (XE×Fr×Heap)):CallF:=⟨zAM P run,zA9 run⟩
def endX (A:Nat) (t:Fr) (h:Heap):Option (XE×Fr×Heap) :=
 match h.blks.get A with
 | some (.loop r)=>if r.st=.busy then none else some (r.pend.getD .normal,t,h.setBlk A (.loop { r with st:=.exhausted }))
 | _=>none
def run (P:Prog):Nat→XC→Fr→Heap→Option (XE×Fr×Heap)
 | 0,_,_,_=>none
 | n+1,c,t,h =>
  match c with
  | .skip=>some (.normal,t,h)
  | .ops l=>match opsX (zAc P (run P n)) l t h with|some (t,h)=>some (.normal,t,h)|none=>none
  | .draw l cs=>match opsT (zAc P (run P n)) l t h with
   | some tr=>cond (zAN l tr cs) (match tr.getLast? with|some (t,h)=>some (.normal,t,h)|none=>none) none
   | none=>none
  | .seq a b=>match run P n a t h with
   | some (.normal,t,h)=>run P n b t h
   | r=>r
  | .cond c a b=>match t.eval c with
   | .bool true=>run P n a t h
   | .bool false=>run P n b t h
   | _=>none
  | .block id c=>match run P n c t h with
   | some (.exit i,t,h)=>if i=id then some (.normal,t,h) else some (.exit i,t,h)
   | r=>r
  | .loop c=>match run P n c t h with
   | some (.normal,t,h)=>run P n (.loop c) t h
   | r=>r
  | .scope c=>run P n c t h
  | .exit id=>some (.exit id,t,h)
  | .ret=>some (.ret,t,h)
  | .rng f ps k asg body=>match t.eval f with
   | .func (.func g) first caps=>match zAc P (run P n) g (first.toList++[.func (.yield h.next) #[] #[]]++caps.toList) (h.pushLoop ⟨t,k,ps,asg,body,.ready,none⟩) with
    | some (_,h2)=>endX h.next t h2
    | none=>none
   | _=>none
def call (P:Prog) (n:Nat):CallF:=zAc P (run P n)
section
variable (p:Program)
def zp:Value→Bool
 | .bool _|.int _ _|.string _|.pointer none|.slice none 0 0|.map none|.nilFunc|.nilIface|.float _ _=>true
 | _=>false
def z9 (t:TypeId):Option (List Value):=match p.info? t with
 | some i=>match i.zero with|some v=>if (zi v).all zp then some (zi v) else none|none=>none
 | none=>none
def zBx (t:TypeId):Option Value:=match p.info? t with
 | some i=>match i.zero with|some v=>if (zi v).all zp then some v else none|none=>none
 | none=>none
def zZ (t:TypeId):Option Nat:=match p.info? t with|some i=>some i.size|none=>none
def zBD (t:TypeId):Option Nat:=match p.info? t with|some i=>some i.bytes|none=>none
def zw (t:TypeId):Option Bool:=match p.underlying t with
 | some (.struct _)|some (.array _ _)=>some true
 | some _=>some false
 | none=>none
def isU8 (t:TypeId):Bool:=match p.underlying t with|some (.int .u8)=>true|_=>false
def zDB (ok:TypeId→Option (List Nat)) (off:Nat):List Field→Option (List Nat)
 | []=>some []
 | f::fs=>match ok f.type with
  | some ks=>if f.name≠"_"∧f.offset=off∧zZ p f.type=some ks.length then (match zDB ok (off+ks.length) fs with|some r=>some (ks++r)|none=>none) else none
  | none=>none
def zBi:Nat→TypeId→Option (List Nat)
 | 0,_=>none
 | d+1,t=>match p.underlying t with
  | some (.int _)=>some [0]
  | some .string=>some [1]
  | some .bool=>some [2]
  | some (.struct fs)=>if p.stoodInHeld t then none else zDB p (zBi d) 0 fs.toList
  | _=>none
def zB7:Operand→Bool
 | .const .nilIface=>true
 | _=>false
def keyK (t:TypeId):Option EqK:=match p.underlying t with
 | some (.int _)=>some .int
 | some .string=>some .str
 | some .bool=>some .bool
 | _=>none
def eqC (t:TypeId) (neg:Bool) (x y:Operand):XOp:=match p.underlying t with
 | some (.int _)=>.p (.eql neg .int x y)
 | some .string=>.p (.eql neg .str x y)
 | some .bool=>.p (.eql neg .bool x y)
 | some (.struct _)=>(match zBi p 5 t with|some ks=>if p.eqGuardType p.depth t then .p (.stop "eql") else .p (.eql neg (.cells ks) x y)|none=>.p (.stop "eql"))
 | some (.array _ _)=>.p (.stop "eql")
 | some (.pointer _)=>.p (.eql neg .nptr x y)
 | some (.slice _)=>.p (.eql neg .nslice x y)
 | some (.map _ _)=>.p (.eql neg .nmap x y)
 | some (.func _ _ _)=>.p (.eql neg .nfunc x y)
 | some (.interface _)=>if zB7 x||zB7 y then .p (.eql neg .ifnil x y) else .p (.stop "eql")
 | _=>.p (.stop "eql")
def zDP (fs:Array Field):List (Nat×Operand)→Option (List (Nat×Nat×Operand))
 | []=>some []
 | (i,x)::ps=>match fs[i]? with
  | some f=>match zZ p f.type,zDP fs ps with
   | some n,some r=>some ((f.offset,n,x)::r)
   | _,_=>none
  | none=>none
def zB3 (c:Call):XOp:=match c.callee with
 | .value f=>.call f c.args.toList
 | .invoke _ _=>.p (.stop "invoke")
 | .builtin b=>match b,c.args.toList with
  | .len,[x]=>match c.argTypes[0]?.bind p.underlying with
   | some (.array n _)=>.p (.lenC n)
   | some .string=>.p (.lenS x)
   | some (.slice _)=>.p (.lenV x)
   | some (.map _ _)=>.r (.lenM x)
   | _=>.p (.stop "len")
  | .append,[s,x]=>match c.argTypes[0]?.bind p.underlying,c.argTypes[1]?.bind p.underlying with
   | some (.slice e),some (.slice _)=>match z9 p e,zZ p e,zBD p e with|some z,some n,some b=>if z.length=n then .e (.append n b s x) else .p (.stop "append")|_,_,_=>.p (.stop "append")
   | some (.slice e),some .string=>match z9 p e,zZ p e,zBD p e with|some z,some n,some b=>if z.length=n then .e (.append n b s x) else .p (.stop "append")|_,_,_=>.p (.stop "append")
   | _,_=>.p (.stop "append")
  | .copy,[d,s]=>match c.argTypes[0]?.bind p.underlying with
   | some (.slice e)=>match zZ p e with|some n=>.e (.copy n d s)|none=>.p (.stop "copy")
   | _=>.p (.stop "copy")
  | .min,x::l=>.p (.minmax false x l)
  | .max,x::l=>.p (.minmax true x l)
  | .delete,[m,k]=>match c.argTypes[0]?.bind p.underlying with
   | some (.map kt _)=>match keyK p kt with|some q=>.e (.mdel q m k)|none=>.p (.stop "delete")
   | _=>.p (.stop "delete")
  | .clear,[x]=>match c.argTypes[0]?.bind p.underlying with
   | some (.slice e)=>match z9 p e with|some z=>.e (.clear z x)|none=>.p (.stop "clear")
   | _=>.p (.stop "clear")
  | _,_=>.p (.stop "builtin")
def binC (op:BinOp) (t:TypeId) (x y:Operand):XOp:=match op with
 | .eql=>eqC p t false x y
 | .neq=>eqC p t true x y
 | op=>.p (.bin op x y)
def opC (o:Oper):XOp :=
 match o.op with
 | .move x|.assign x=>.p (.mov x)
 | .pick c a b=>.p (.pick c a b)
 | .alloc e=>match z9 p e with|some z=>.a (.alloc z)|none=>.p (.stop "alloc")
 | .box _ x=>.a (.box x)
 | .build t ps=>match z9 p t,p.underlying t with
  | some z,some (.struct fs)=>match zDP p fs ps.toList with|some l=>if fs.toList.all fun f=>(zZ p f.type).isSome then .p (.build z l) else .p (.stop "build")|none=>.p (.stop "build")
  | some z,some (.array _ e)=>match zZ p e with
   | some n=>.p (.build z (ps.toList.map fun q=>(q.1*n,n,q.2)))
   | none=>.p (.stop "build")
  | _,_=>.p (.stop "build")
 | .buildSlice t len ps=>match p.underlying t with
  | some (.slice e)=>match z9 p e,zZ p e with
   | some z,some n=>if z.length=n∧n≠0∧len*n≤16777216 then .a (.bslice ((Array.range (len*n)).map (z.toArray[· % n]!)).toList len (ps.toList.map fun q=>(q.1*n,n,q.2))) else .p (.stop "bslice")
   | _,_=>.p (.stop "bslice")
  | _=>.p (.stop "bslice")
 | .load t a=>match zw p t,zZ p t with
  | some true,some n=>.r (.loadN n a)
  | some false,_=>.r (.load1 a)
  | _,_=>.p (.stop "load")
 | .store t a v=>match zZ p t with|some n=>.e (.store n a v)|none=>.p (.stop "store")
 | .nilCheck x=>.p (.nilc x)
 | .binOp op t x y _=>binC p op t x y
 | .unOp op _ x=>.p (.un op x)
 | .convert s d x=>match p.underlying s,p.underlying d with
  | some (.int _),some (.int k)=>.p (.cint k x)
  | some .string,some .string=>.p (.slcS x none none)
  | some (.slice e),some .string=>if isU8 p e then .r (.cb2s x) else .p (.stop "convert")
  | some .string,some (.slice e)=>if isU8 p e then .a (.cs2b x) else .p (.stop "convert")
  | _,_=>.p (.stop "convert")
 | .makeInterface t x=>match p.underlying t with
  | some (.interface _)=>.p (.stop "iface")
  | some _=>.p (.mkiface t x)
  | none=>.p (.stop "iface")
 | .makeFunc fn a b=>match fn with|.func _=>.p (.mkfn fn a.toList b.toList)|_=>.p (.stop "makeFunc")
 | .makeMap _ none=>.a .mkmap
 | .makeMap _ (some _)=>.p (.stop "makeMap")
 | .makeSlice t l c=>match p.underlying t with
  | some (.slice e)=>match z9 p e,zBD p e,zZ p e with|some z,some b,some n=>if z.length=n∧n≠0 then .a (.mkslice z b l c) else .p (.stop "makeSlice")|_,_,_=>.p (.stop "makeSlice")
  | _=>.p (.stop "makeSlice")
 | .slice t x lo hi mx=>match p.underlying t with
  | some .string=>if mx.isSome then .p (.stop "slice") else .p (.slcS x lo hi)
  | some (.slice e)=>match zZ p e with|some n=>if mx.isSome&&hi.isNone then .p (.stop "slice") else .p (.slc n x lo hi mx)|none=>.p (.stop "slice")
  | some (.array n e)=>match zZ p e with|some s=>if mx.isSome&&hi.isNone then .p (.stop "slice") else .p (.slcA n s x lo hi mx)|none=>.p (.stop "slice")
  | _=>.p (.stop "slice")
 | .fieldAddr s x f=>match p.underlying s with
  | some (.struct fs)=>match fs[f]? with
   | some fd=>match zZ p fd.type with
    | some n=>if n=0 then .p (.stop "fieldAddr") else .p (.faddr fd.offset x)
    | none=>.p (.stop "fieldAddr")
   | none=>.p (.stop "fieldAddr")
  | _=>.p (.stop "fieldAddr")
 | .field t x f=>match p.underlying t with
  | some (.struct fs)=>match fs[f]? with
   | some fd=>match zw p fd.type,zZ p fd.type with
    | some true,some n=>.p (.fieldN fd.offset n x)
    | some false,_=>.p (.field1 fd.offset x)
    | _,_=>.p (.stop "field")
   | none=>.p (.stop "field")
  | _=>.p (.stop "field")
 | .indexAddr t x i=>match p.underlying t with
  | some (.array n e)=>match zZ p e with|some s=>.p (.iaddrA n s x i)|none=>.p (.stop "indexAddr")
  | some (.slice e)=>match zZ p e with|some s=>.p (.iaddrS s x i)|none=>.p (.stop "indexAddr")
  | _=>.p (.stop "indexAddr")
 | .index t x i=>match p.underlying t with
  | some .string=>.p (.idxS x i)
  | some (.array n e)=>match zw p e,zZ p e with
   | some true,some s=>.p (.idxAN n s x i)
   | some false,some 1=>.p (.idxA1 n x i)
   | _,_=>.p (.stop "index")
  | _=>.p (.stop "index")
 | .lookup t m key ok=>match p.underlying t with
  | some (.map kt e)=>match keyK p kt,zBx p e with
   | some k,some z=>.r (.lookup z ok k m key)
   | _,_=>.p (.stop "lookup")
  | _=>.p (.stop "lookup")
 | .mapUpdate t m key v|.insert t m key v=>match p.underlying t with
  | some (.map kt _)=>match keyK p kt with|some k=>.e (.mupd k m key v)|none=>.p (.stop "mapUpdate")
  | _=>.p (.stop "mapUpdate")
 | .range t x=>match p.underlying t with
  | some (.map _ _)=>.e (.mkiter false x)
  | some .string=>.e (.mkiter true x)
  | _=>.p (.stop "range")
 | .next x s=>.e (.next s x)
 | .mapEntry t m key=>match p.underlying t with
  | some (.map kt e)=>match keyK p kt,zBx p e with
   | some k,some z=>.e (.mentry z k m key)
   | _,_=>.p (.stop "mapEntry")
  | _=>.p (.stop "mapEntry")
 | .entryStore _ m s v=>.e (.estore m s v)
 | .typeAssert x _ t ok=>match p.underlying t with
  | some (.interface _)=>.p (.stop "typeAssert")
  | some _=>match zBx p t with|some z=>.p (.tassert t z ok x)|none=>.p (.stop "typeAssert")
  | none=>.p (.stop "typeAssert")
 | .extract x i=>.p (.ext x i)
 | .call c=>zB3 p c
 | _=>.p (.stop "other")
def zB5 (ops:Array Oper):Option (Nat×Bool)→Option (Option (Nat×Bool))
 | none=>some none
 | some (j,b)=>match (ops[j]?).bind (·.dst) with
  | some s=>some (some (s,b))
  | none=>none
def operC (ops:Array Oper) (o:Oper):Option XO :=
 match zB5 ops o.guard with
 | some g=>some ⟨o.dst,opC p o,g⟩
 | none=>none
def zAl (ops:Array Oper):List Oper→Option (List XO)
 | []=>some []
 | o::l=>match operC p ops o,zAl ops l with
  | some x,some r=>some (x::r)
  | _,_=>none
def zFZ:Operand→List Nat
 | .tmp t=>[t]
 | _=>[]
def zEA (l:List Operand):List Nat:=l.flatMap zFZ
def zCh:Operand→Bool
 | .global _=>false
 | .const v=>zp v
 | _=>true
def zf:List Oper→List Nat→List Nat
 | [],acc=>acc
 | o::l,acc=>zf l (acc++[o.after.toList.foldl (fun m e=>if Region.binds .any e then m ||| (2 ^ e.on ||| acc.getD e.on 0) else m) 0])
def zA2:XOp→Bool
 | .e _|.call _ _=>true
 | _=>false
def kindA:XOp→Bool
 | .a _=>true
 | _=>false
def kindR:XOp→Bool
 | .r _=>true
 | _=>false
def zBp (l:List XO):List Nat:=((List.range l.length).filter fun i=>match l[i]? with|some o=>zA2 o.op|none=>false)++[l.length]
def mayAt (bef:List Nat) (es:List Nat) (n j k:Nat):Bool :=
 es.all fun e=>if e=n then true else if e<k then !(bef.getD e 0).testBit j else !(bef.getD j 0).testBit e
def zDL (l:List XO) (i k:Nat):Bool:=((l.drop i).take (k - i)).all fun o=>!kindA o.op
def zDK (es:List Nat) (j k:Nat):Bool:=j.blt k&&es.all fun e=>!(j.blt e&&e.blt k)
def zDQ (l:List XO) (bef:List Nat) (j k:Nat):List Nat :=
 (List.range l.length).filter fun i=>k.ble i&&(bef.getD j 0).testBit i&&(match l[i]? with|some o=>kindA o.op|none=>false)
def zAd (l:List XO) (bef:List Nat):List (Nat×Nat×List Nat) :=
 let es:=zBp l
 let n:=l.length
 (List.range n).flatMap fun j=>match l[j]? with
  | some o=>if kindR o.op then
    (es.filter (fun k=>mayAt bef es n j k&&!(zDK es j k&&zDL l j k))).map fun k=>(j,k,zDQ l bef j k)
   else []
  | none=>[]
def zAO (o:Oper) (g:Option (Nat×Bool)):List Nat :=
 zEA o.op.operands.toList++(match g with|some (s,_)=>[s]|none=>[])
def zED (ops:Array Oper) (l:List XO) (bef:List Nat):Bool :=
 (List.range l.length).all fun j=>(List.range j).all fun i =>
  match ops[i]?,ops[j]?,l[i]?,l[j]? with
  | some oi,some oj,some xi,some xj =>
   (bef.getD j 0).testBit i ||
   (!(zA2 xi.op&&zA2 xj.op) &&
    (match xi.dst with|some d=>!(zAO oj xj.guard).contains d&&xj.dst != some d|none=>true) &&
    (match xj.dst with|some d=>!(zAO oi xi.guard).contains d|none=>true))
  | _,_,_,_=>false
def zCU (ops:Array Oper):Option XC :=
 match zAl p ops ops.toList with
 | some l =>
  let bef:=zf ops.toList []
  if zED ops l bef&&(ops.toList.zipIdx.all fun (o,i)=>o.after.all fun e=>!Region.binds .any e||e.on<i) then some (.draw l (zAd l bef)) else none
 | none=>none
def zBF (n:Nat) (l:List XO):Bool:=l.all fun o=>match o.dst with|some d=>d.blt n|none=>true
def zBQ (ops:Array Oper):Bool:=ops.all fun o=>o.op.operands.all zCh
def zx:XC→Bool
 | .seq a b|.cond _ a b=>zx a&&zx b
 | .block _ c|.loop c|.scope c=>zx c
 | .rng ..=>false
 | _=>true
def zr (n:Nat):Code→Option XC
 | .skip=>some .skip
 | .label _=>some .skip
 | .region _ ops true=>match zCU p ops with
  | some (.draw l cs)=>if zBF n l&&zBQ ops then some (.draw l cs) else none
  | _=>none
 | .region _ ops false=>match zAl p ops ops.toList with
  | some l=>if zBF n l&&zBQ ops then some (.ops l) else none
  | none=>none
 | .seq a b=>match zr n a,zr n b with|some a,some b=>some (.seq a b)|_,_=>none
 | .cond c a b=>match zr n a,zr n b with|some a,some b=>if zCh c then some (.cond c a b) else none|_,_=>none
 | .block id c=>match zr n c with|some c=>some (.block id c)|none=>none
 | .loop c=>match zr n c with|some c=>some (.loop c)|none=>none
 | .scope c=>match zr n c with|some c=>some (.scope c)|none=>none
 | .exit id=>some (.exit id)
 | .ret=>some .ret
 | .rangeFunc f ps a b=>match zr n a,zr n b with
  | some xa,some xb=>if zCh f&&ps.toList.all (Nat.blt · n)&&zx xa&&zx xb then some (.rng f ps.toList n xa xb) else none
  | _,_=>none
 | _=>none
def resC:List ResultVar→Option (List XR)
 | []=>some []
 | .tmp t::l=>match resC l with|some r=>some (.tmp t::r)|none=>none
 | .cell t ty::l=>match zw p ty,zZ p ty,resC l with
  | some true,some n,some r=>some (.cellN t n::r)
  | some false,_,some r=>some (.cell1 t::r)
  | _,_,_=>none
def zt (f:Func):Option XF :=
 match f.body with
 | some c=>match zr p f.ntmps c,resC p f.results.toList with
  | some x,some r=>if f.params.size+f.nfree≤f.ntmps∧f.name≠"runtime.NumGoroutine" then some ⟨f.params.size+f.nfree,r,x⟩ else none
  | _,_=>none
 | none=>none
end
end Go.X
end
section
namespace Go.X
open Go.RowKit
namespace PT
variable {α:Type}
def back:List Bool→Nat
 | []=>0
 | b::bs=>(if b then 1 else 0)+2*back bs
theorem zEf:∀ (f n:Nat),n≤f→back (path f n)=n
 | 0,n,h=>by (obtain rfl:n=0:=by omega);rfl
 | f+1,n,h=>by
  unfold path
  by_cases h0:n=0
  ·subst h0;rfl
  ·have hb:n.beq 0=false:=by cases n with|zero=>exact absurd rfl h0|succ n=>rfl
   rw[hb]
   show (if ((n % 2).beq 1)=true then 1 else 0)+2*back (path f (n / 2))=n
   rw[zEf f (n / 2) (by omega)]
   by_cases h1:n % 2=1
   ·rw[h1]
    have:(if (Nat.beq 1 1)=true then 1 else 0)=1:=rfl
    rw[this];omega
   ·have h2:n % 2=0:=by omega
    rw[h2]
    have:(if (Nat.beq 0 1)=true then 1 else 0)=0:=rfl
    rw[this];omega
theorem path_inj {n m:Nat} (h:path n n=path m m):n=m:=by
 rw[←zEf n n (Nat.le_refl _),h,zEf m m (Nat.le_refl _)]
theorem zHS (p:List Bool):getP (.leaf:PT α) p=none:=by cases p<;>rfl
theorem zHT:∀ (p:List Bool) (t:PT α) (a:α),getP (setP t p a) p=some a
 | [],t,a=>by cases t<;>rfl
 | b::bs,t,a=>by cases t<;>cases b<;>simp only[setP,getP]<;>exact zHT bs _ a
theorem zHU:∀ (p q:List Bool) (t:PT α) (a:α),p≠q→getP (setP t p a) q=getP t q
 | [],[],_,_,h=>absurd rfl h
 | [],b::bs,t,a,_=>by cases t<;>cases b<;>simp[setP,getP]
 | b::bs,[],t,a,_=>by cases t<;>cases b<;>simp[setP,getP]
 | b::bs,c::cs,t,a,h=>by
  by_cases hbc:b=c
  ·subst hbc
   have h':bs≠cs:=fun e=>h (by rw[e])
   cases t<;>cases b<;>simp only[setP,getP]<;>rw[zHU bs cs _ a h']<;>simp[zHS]
  ·cases t<;>cases b<;>cases c<;>simp_all [setP,getP]
theorem get_set_eq (t:PT α) (n:Nat) (a:α):(t.set n a).get n=some a:=zHT _ _ _
theorem get_set_ne (t:PT α) {n m:Nat} (a:α) (h:m≠n):(t.set n a).get m=t.get m :=
 zHU _ _ _ _ fun e=>h (path_inj e).symm
theorem get_set (t:PT α) (n m:Nat) (a:α):(t.set n a).get m=if m=n then some a else t.get m:=by
 split
 ·rename_i h;subst h;exact get_set_eq t m a
 ·rename_i h;exact get_set_ne t a h
theorem get_leaf (n:Nat):(.leaf:PT α).get n=none:=zHS _
end PT
inductive All2 {α β:Type} (R:α→β→Prop):List α→List β→Prop where
 | nil:All2 R [] []
 | cons {a:α} {b:β} {asx:List α} {bs:List β}:R a b→All2 R asx bs→All2 R (a::asx) (b::bs)
namespace All2
variable {α β:Type} {R S:α→β→Prop}
theorem length {l:List α} {m:List β} (h:All2 R l m):l.length=m.length:=by induction h<;>simp_all
theorem mono {l:List α} {m:List β} (h:All2 R l m) (f:∀a b,R a b→S a b):All2 S l m:=by
 induction h with
 | nil=>exact .nil
 | cons h _ ih=>exact .cons (f _ _ h) ih
theorem get {l:List α} {m:List β} (h:All2 R l m):∀ (i:Nat) (h1:i<l.length) (h2:i<m.length),R l[i] m[i]:=by
 induction h with
 | nil=>intro i h1;simp at h1
 | cons h _ ih=>intro i h1 h2;cases i with
  | zero=>exact h
  | succ i=>exact ih i (by simpa using h1) (by simpa using h2)
theorem of_get:∀ {l:List α} {m:List β},l.length=m.length→(∀ (i:Nat) (h1:i<l.length) (h2:i<m.length),R l[i] m[i])→All2 R l m
 | [],[],_,_=>.nil
 | a::asx,b::bs,hl,h=>.cons (h 0 (by simp) (by simp)) (of_get (by simpa using hl) fun i h1 h2=>h (i+1) (by simpa using h1) (by simpa using h2))
 | [],_::_,hl,_=>by simp at hl
 | _::_,[],hl,_=>by simp at hl
theorem append {l l':List α} {m m':List β} (h:All2 R l m) (h':All2 R l' m'):All2 R (l++l') (m++m'):=by
 induction h with
 | nil=>exact h'
 | cons h _ ih=>exact .cons h ih
theorem drop {l:List α} {m:List β} (h:All2 R l m):∀n,All2 R (l.drop n) (m.drop n):=by
 induction h with
 | nil=>intro n;simp;exact .nil
 | cons h hs ih=>intro n;cases n with
  | zero=>exact .cons h hs
  | succ n=>exact ih n
theorem take {l:List α} {m:List β} (h:All2 R l m):∀n,All2 R (l.take n) (m.take n):=by
 induction h with
 | nil=>intro n;simp;exact .nil
 | cons h hs ih=>intro n;cases n with
  | zero=>exact .nil
  | succ n=>exact .cons h (ih n)
theorem get? {l:List α} {m:List β} (h:All2 R l m) {i:Nat} {a:α} (ha:l[i]?=some a):∃b,m[i]?=some b∧R a b:=by
 obtain⟨hi,rfl⟩:=List.getElem?_eq_some_iff.1 ha
 exact⟨m[i]'(h.length▸hi),List.getElem?_eq_getElem _,h.get i hi _⟩
theorem map {γ δ:Type} {T:γ→δ→Prop} {f:α→γ} {g:β→δ} {l:List α} {m:List β} (h:All2 R l m) (fg:∀a b,R a b→T (f a) (g b)):All2 T (l.map f) (m.map g):=by
 induction h with
 | nil=>exact .nil
 | cons h _ ih=>exact .cons (fg _ _ h) ih
theorem map_same {γ:Type} {f:γ→α} {g:γ→β} (l:List γ) (h:∀x∈l,R (f x) (g x)):All2 R (l.map f) (l.map g):=by
 induction l with
 | nil=>exact .nil
 | cons x l ih=>exact .cons (h x (by simp)) (ih fun y hy=>h y (by simp[hy]))
theorem refl_of {R:α→α→Prop} (l:List α) (h:∀x∈l,R x x):All2 R l l:=by
 induction l with
 | nil=>exact .nil
 | cons x l ih=>exact .cons (h x (by simp)) (ih fun y hy=>h y (by simp[hy]))
theorem set {l:List α} {m:List β} (h:All2 R l m) {a:α} {b:β} (hab:R a b):∀i,All2 R (l.set i a) (m.set i b):=by
 induction h with
 | nil=>intro i;exact .nil
 | cons h hs ih=>intro i;cases i with
  | zero=>exact .cons hab hs
  | succ i=>exact .cons h (ih i)
theorem eraseIdx {l:List α} {m:List β} (h:All2 R l m):∀i,All2 R (l.eraseIdx i) (m.eraseIdx i):=by
 induction h with
 | nil=>intro i;exact .nil
 | cons h hs ih=>intro i;cases i with
  | zero=>exact hs
  | succ i=>exact .cons h (ih i)
theorem flatten {l:List (List α)} {m:List (List β)} (h:All2 (All2 R) l m):All2 R l.flatten m.flatten:=by
 induction h with
 | nil=>exact .nil
 | cons h _ ih=>exact h.append ih
end All2
structure Loc where
 b:Nat
 o:Nat
 size:Nat
abbrev Ren:=Nat→Option Loc
inductive VRel (ρ:Ren):Value→Value→Prop where
 | bool (b:Bool):VRel ρ (.bool b) (.bool b)
 | int (k:IntKind) (n:Int):VRel ρ (.int k n) (.int k n)
 | float (k:FloatKind) (n:Nat):VRel ρ (.float k n) (.float k n)
 | string (s:ByteArray):VRel ρ (.string s) (.string s)
 | nilptr:VRel ρ (.pointer none) (.pointer none)
 | ptr {A off:Nat} {l:Loc}:ρ A=some l→VRel ρ (.pointer (some ⟨A,off,none⟩)) (.pointer (some ⟨l.b,l.o+off,none⟩))
 | nilslice:VRel ρ (.slice none 0 0) (.slice none 0 0)
 | slice {A off len cap cap':Nat} {sp:Option Nat} {l:Loc} {a:Addr}:ρ A=some l→len≤cap→cap≤cap'→(0<cap'→a=⟨l.b,l.o+off,none⟩) →
  (sp=none→cap=cap')→(∀q,sp=some q→l.o+off+cap'*q≤l.size)→VRel ρ (.slice (some ⟨A,off,sp⟩) len cap) (.slice (some a) len cap')
 | nilmap:VRel ρ (.map none) (.map none)
 | map {A:Nat} {l:Loc}:ρ A=some l→VRel ρ (.map (some A)) (.map (some l.b))
 | yield {A:Nat} {l:Loc}:ρ A=some l→VRel ρ (.func (.yield A) #[] #[]) (.func (.yield l.b) #[] #[])
 | func {f:Nat} {a b a' b':Array Value} (ha:a.size=a'.size) (hb:b.size=b'.size) :
  (∀ (i:Nat) (h:i<a.size) (h':i<a'.size),VRel ρ a[i] a'[i])→(∀ (i:Nat) (h:i<b.size) (h':i<b'.size),VRel ρ b[i] b'[i])→VRel ρ (.func (.func f) a b) (.func (.func f) a' b')
 | nilFunc:VRel ρ .nilFunc .nilFunc
 | iface {t:TypeId} {v v':Value}:VRel ρ v v'→VRel ρ (.iface t v) (.iface t v')
 | nilIface:VRel ρ .nilIface .nilIface
 | agg {a a':Array Value} (ha:a.size=a'.size):(∀ (i:Nat) (h:i<a.size) (h':i<a'.size),VRel ρ a[i] a'[i])→VRel ρ (.agg a) (.agg a')
 | tuple {a a':Array Value} (ha:a.size=a'.size):(∀ (i:Nat) (h:i<a.size) (h':i<a'.size),VRel ρ a[i] a'[i])→VRel ρ (.tuple a) (.tuple a')
theorem VRel.mono {ρ ρ':Ren} (hm:∀A l,ρ A=some l→ρ' A=some l) {v v':Value} (h:VRel ρ v v'):VRel ρ' v v':=by
 induction h with
 | bool b=>exact .bool b
 | int k n=>exact .int k n
 | float k n=>exact .float k n
 | string s=>exact .string s
 | nilptr=>exact .nilptr
 | ptr h=>exact .ptr (hm _ _ h)
 | nilslice=>exact .nilslice
 | slice h a b c d e=>exact .slice (hm _ _ h) a b c d e
 | nilmap=>exact .nilmap
 | map h=>exact .map (hm _ _ h)
 | yield h=>exact .yield (hm _ _ h)
 | func ha hb _ _ ih1 ih2=>exact .func ha hb ih1 ih2
 | nilFunc=>exact .nilFunc
 | iface _ ih=>exact .iface ih
 | nilIface=>exact .nilIface
 | agg ha _ ih=>exact .agg ha ih
 | tuple ha _ ih=>exact .tuple ha ih
abbrev LRel (ρ:Ren):=All2 (VRel ρ)
theorem LRel.mono {ρ ρ':Ren} (hm:∀A l,ρ A=some l→ρ' A=some l) {l l':List Value} (h:LRel ρ l l'):LRel ρ' l l':=All2.mono h fun _ _=>VRel.mono hm
theorem zBK {ρ:Ren} {a a':Array Value} (ha:a.size=a'.size) (h:∀ (i:Nat) (h:i<a.size) (h':i<a'.size),VRel ρ a[i] a'[i]):LRel ρ a.toList a'.toList :=
 All2.of_get (by simpa using ha) fun i h1 h2=>by simpa using h i (by simpa using h1) (by simpa using h2)
theorem zCN {ρ:Ren} {a a':Array Value} (h:LRel ρ a.toList a'.toList):a.size=a'.size∧∀ (i:Nat) (_:i<a.size) (_:i<a'.size),VRel ρ a[i] a'[i] :=
 ⟨by simpa using h.length,fun i h1 h2=>by
  have:=h.get i (by simpa using h1) (by simpa using h2)
  rw[Array.getElem_toList,Array.getElem_toList] at this
  exact this⟩
theorem VRel.agg_of {ρ:Ren} {a a':Array Value} (h:LRel ρ a.toList a'.toList):VRel ρ (.agg a) (.agg a'):=.agg (zCN h).1 (zCN h).2
theorem VRel.tuple_of {ρ:Ren} {a a':Array Value} (h:LRel ρ a.toList a'.toList):VRel ρ (.tuple a) (.tuple a'):=.tuple (zCN h).1 (zCN h).2
theorem VRel.agg_ofL {ρ:Ren} {l:List Value} {l':List Value} (h:LRel ρ l l'):VRel ρ (.agg l.toArray) (.agg l'.toArray):=VRel.agg_of (by simpa using h)
theorem VRel.tuple_ofL {ρ:Ren} {l l':List Value} (h:LRel ρ l l'):VRel ρ (.tuple l.toArray) (.tuple l'.toArray):=by
 have:=VRel.agg_ofL h
 cases this with|agg ha hb=>exact .tuple ha hb
theorem VRel.undef {ρ:Ren}:VRel ρ (.tuple #[]) (.tuple #[]):=.tuple rfl fun i h=>by simp at h
theorem VRel.cells {ρ:Ren} {v v':Value} (h:VRel ρ v v'):LRel ρ (zi v) (zi v'):=by
 cases h with
 | agg ha h=>exact zBK ha h
 | bool b=>exact .cons (.bool b) .nil
 | int k n=>exact .cons (.int k n) .nil
 | float k n=>exact .cons (.float k n) .nil
 | string s=>exact .cons (.string s) .nil
 | nilptr=>exact .cons .nilptr .nil
 | ptr h=>exact .cons (.ptr h) .nil
 | nilslice=>exact .cons .nilslice .nil
 | slice h a b c d e=>exact .cons (.slice h a b c d e) .nil
 | nilmap=>exact .cons .nilmap .nil
 | map h=>exact .cons (.map h) .nil
 | yield h=>exact .cons (.yield h) .nil
 | func ha hb h1 h2=>exact .cons (.func ha hb h1 h2) .nil
 | nilFunc=>exact .cons .nilFunc .nil
 | iface h=>exact .cons (.iface h) .nil
 | nilIface=>exact .cons .nilIface .nil
 | tuple ha h=>exact .cons (.tuple ha h) .nil
theorem zB4 (v:Value):zi v=v.cells.toList:=by cases v<;>rfl
theorem zFX {ρ:Ren} {v v':Value} (h:VRel ρ v v'):oneC v=oneC v':=by cases h<;>rfl
theorem okCells_iff {h:Heap} {b:Nat} {c:zAT}:h.okCells b=some c↔h.blks.get b=some (.cells c)∧∃f,h.fams.get c.fam=some f∧(b=f.who∨f.since≤b):=by
 unfold Heap.okCells
 constructor
 ·intro hh
  split at hh
  ·rename_i c' hb
   split at hh
   ·rename_i f hf
    cases hc:(b.beq f.who||f.since.ble b) with
    | false=>rw[hc] at hh;cases hh
    | true =>
     rw[hc] at hh
     obtain rfl:c'=c:=by simpa using hh
     refine⟨hb,f,hf,?_⟩
     simpa using hc
   ·cases hh
  ·cases hh
 ·rintro⟨hb,f,hf,hor⟩
  rw[hb]
  simp only[hf]
  have:(b.beq f.who||f.since.ble b)=true:=by simpa using hor
  rw[this];rfl
structure HWF (h:Heap):Prop where
 fresh:∀A,h.next≤A→h.blks.get A=none∧h.fams.get A=none
 fam:∀A c,h.blks.get A=some (.cells c)→c.fam<h.next∧∃f,h.fams.get c.fam=some f
 top:∀A c f,h.okCells A=some c→h.fams.get c.fam=some f→c.delta+c.cells.length≤f.top
theorem HWF.lt {h:Heap} (hw:HWF h) {A:Nat} {b:Blk} (hb:h.blks.get A=some b):A<h.next:=by
 rcases Nat.lt_or_ge A h.next with h'|h'
 ·exact h'
 ·rw[(hw.fresh A h').1] at hb;cases hb
theorem HWF.empty:HWF Heap.empty :=
 ⟨fun A _=>⟨PT.get_leaf A,PT.get_leaf A⟩,fun A c h=>by simp[Heap.empty,PT.get_leaf] at h,fun A c f h=>by
  have:=(okCells_iff.1 h).1;simp[Heap.empty,PT.get_leaf] at this⟩
def ERel (ρ:Ren) (e:Value×Value) (e':MapEntry):Prop:=VRel ρ e.1 e'.key∧VRel ρ e.2 e'.val
def Unmarked (w:World) (b:Nat):Prop:=∀cs T fz,w.heap[b]?=some (.cells cs T fz)→¬(fz.1≤cs.size∧cs.size<fz.2)
theorem Unmarked.same {w w':World} {b:Nat} (h:Unmarked w b) (e:w'.heap[b]?=w.heap[b]?):Unmarked w' b:=fun cs T fz hh=>h cs T fz (by rw[←e];exact hh)
structure FRel (ρ:Ren) (N:Nat) (t:Fr) (tmps:Array Value):Prop where
 size:tmps.size=N
 rel:∀i,VRel ρ (t.get i) (tmps.getD i undef)
theorem FRel.mono {ρ ρ':Ren} {N:Nat} {t:Fr} {tmps:Array Value} (h:FRel ρ N t tmps) (hm:∀A l,ρ A=some l→ρ' A=some l):FRel ρ' N t tmps:=⟨h.size,fun i=>(h.rel i).mono hm⟩
def XE.code:XE→Code
 | .normal=>.skip
 | .exit id=>.exit id
 | .ret=>.ret
structure LoopOK (P:Program) (ρ:Ren) (r:XL) (q:Loop):Prop where
 fr:FRel ρ r.n r.t q.tmps
 ps:q.params.toList=r.ps
 pb:∀p∈r.ps,p<r.n
 asg:zr P r.n q.assign=some r.asg
 body:zr P r.n q.body=some r.body
 nra:zx r.asg=true
 nrb:zx r.body=true
 st:q.state=r.st
 pend:q.pending=r.pend.map XE.code
theorem LoopOK.mono {P:Program} {ρ ρ':Ren} {r:XL} {q:Loop} (h:LoopOK P ρ r q) (hm:∀A l,ρ A=some l→ρ' A=some l):LoopOK P ρ' r q:=⟨h.fr.mono hm,h.ps,h.pb,h.asg,h.body,h.nra,h.nrb,h.st,h.pend⟩
def zBC (es:Array MapEntry) (cl:Nat):Prop:=(∀x∈es.toList,x.born<cl)∧(es.toList.map (·.born)).Nodup
def Root (h:Heap) (A:Nat):Prop:=∃c,h.blks.get A=some (.cells c)∧c.fam=A∧c.delta=0∧c.ro=false
def Blk.special:Blk→Prop
 | .loop _|.iter _=>True
 | _=>False
def zBz:Obj→Prop
 | .loop _|.mapIter ..|.stringIter ..=>True
 | _=>False
def IterOK (ρ:Ren) (o:zAv) (q:Obj):Prop:=match o with
 | .str s pos=>q=.stringIter s pos
 | .map none a b c=>q=.mapIter none a b.toArray c
 | .map (some r) a b c=>∃l,ρ r=some l∧q=.mapIter (some l.b) a b.toArray c
theorem IterOK.mono {ρ ρ':Ren} {o:zAv} {q:Obj} (h:IterOK ρ o q) (hm:∀A l,ρ A=some l→ρ' A=some l):IterOK ρ' o q:=by
 unfold IterOK at h ⊢
 split
 ·exact h
 ·exact h
 ·obtain⟨l,h1,h2⟩:=h
  exact⟨l,hm _ _ h1,h2⟩
theorem IterOK.sp {ρ:Ren} {o:zAv} {q:Obj} (h:IterOK ρ o q):zBz q:=by
 unfold IterOK at h
 split at h
 ·subst h;trivial
 ·subst h;trivial
 ·obtain⟨l,_,rfl⟩:=h;trivial
def StOK (st:Option (List Nat×Nat)) (es:Array MapEntry) (cl:Nat):Prop:=match st with
 | none=>True
 | some (l,c)=>es.toList.map (·.born)=l∧cl=c
structure Loops (P:Program) (base:Nat) (ρ:Ren) (h:Heap) (w:World):Prop where
 recd:∀A l r,h.blks.get A=some (.loop r)→ρ A=some l→∃q,w.heap[l.b]?=some (.loop q)∧base≤l.b∧LoopOK P ρ r q
 iter:∀A l o,h.blks.get A=some (.iter o)→ρ A=some l→∃q,w.heap[l.b]?=some q∧base≤l.b∧l.o=0∧IterOK ρ o q
 apart:∀A B b c l m,A≠B→h.blks.get A=some b→b.special→h.blks.get B=some c→c.special→ρ A=some l→ρ B=some m→l.b≠m.b
 root:∀A l,Root h A→ρ A=some l→l.o=0
 stamps:∀A l es st es' cl,h.blks.get A=some (.map es st)→ρ A=some l→w.heap[l.b]?=some (.map es' cl)→zBC es' cl∧StOK st es' cl
theorem Loops.step {P:Program} {base:Nat} {ρ ρ':Ren} {h h':Heap} {w w':World} (hl:Loops P base ρ h w) (hm:∀A l,ρ A=some l→ρ' A=some l)
  (hb:∀A b l,h'.blks.get A=some b→b.special→ρ' A=some l→h.blks.get A=some b∧ρ A=some l) (hw:∀ (k:Nat) (q:Obj),w.heap[k]?=some q→zBz q→w'.heap[k]?=some q)
  (hc:∀A l,Root h' A→ρ' A=some l→l.o=0∨(Root h A∧ρ A=some l))
  (hs:∀A l es st es' cl,h'.blks.get A=some (.map es st)→ρ' A=some l→w'.heap[l.b]?=some (.map es' cl)→(zBC es' cl∧StOK st es' cl)∨(∃es0,h.blks.get A=some (.map es0 st)∧ρ A=some l∧w.heap[l.b]?=some (.map es' cl))):Loops P base ρ' h' w':=by
 refine⟨fun A l r h1 h2=>?_,fun A l o h1 h2=>?_,fun A B b c l m hne h1 s1 h2 s2 h3 h4=>?_,fun A l h1 h2=>?_,fun A l es st es' cl h1 h2 h3=>?_⟩
 ·obtain⟨g1,g2⟩:=hb A _ l h1 trivial h2
  obtain⟨q,q1,q2,q3⟩:=hl.recd A l r g1 g2
  exact⟨q,hw _ _ q1 trivial,q2,q3.mono hm⟩
 ·obtain⟨g1,g2⟩:=hb A _ l h1 trivial h2
  obtain⟨q,q1,q2,q4,q3⟩:=hl.iter A l o g1 g2
  exact⟨q,hw _ _ q1 q3.sp,q2,q4,q3.mono hm⟩
 ·obtain⟨g1,g2⟩:=hb A b l h1 s1 h3
  obtain⟨g3,g4⟩:=hb B c m h2 s2 h4
  exact hl.apart A B b c l m hne g1 s1 g3 s2 g2 g4
 ·rcases hc A l h1 h2 with h|⟨h,hρ⟩
  ·exact h
  ·exact hl.root A l h hρ
 ·rcases hs A l es st es' cl h1 h2 h3 with h|⟨es0,g1,g2,g3⟩
  ·exact h
  ·exact hl.stamps A l es0 st es' cl g1 g2 g3
theorem Loops.sameW {P:Program} {base:Nat} {ρ:Ren} {h:Heap} {w w':World} (hl:Loops P base ρ h w) (hw:∀A l,ρ A=some l→(h.blks.get A).isSome→w'.heap[l.b]?=w.heap[l.b]?):Loops P base ρ h w' :=
 ⟨fun A l r h1 h2=>by rw[hw A l h2 (by rw[h1];rfl)];exact hl.recd A l r h1 h2,fun A l o h1 h2=>by rw[hw A l h2 (by rw[h1];rfl)];exact hl.iter A l o h1 h2,hl.apart,hl.root,fun A l es st es' cl h1 h2 h3=>hl.stamps A l es st es' cl h1 h2 (by rw[←hw A l h2 (by rw[h1];rfl)];exact h3)⟩
structure HRel (P:Program) (base:Nat) (ρ:Ren) (h:Heap) (w:World):Prop where
 le:base≤w.heap.size
 bnd:∀A l,ρ A=some l→l.b<w.heap.size
 found:∀A c,h.blks.get A=some (.cells c)→(ρ A).isSome→(ρ c.fam).isSome
 cells:∀A c l,h.okCells A=some c→ρ A=some l→∃cs T fz,w.heap[l.b]?=some (.cells cs T fz)∧cs.size=l.size∧l.o+c.cells.length≤cs.size ∧
  LRel ρ c.cells ((cs.toList.drop l.o).take c.cells.length)∧(c.ro=false→base≤l.b∧∀i,i<cs.size→¬(fz.1≤i∧i<fz.2))
 alias:∀A B c d l m,A≠B→h.okCells A=some c→h.okCells B=some d→ρ A=some l→ρ B=some m→l.b=m.b→c.fam=d.fam∧l.o+d.delta=m.o+c.delta
 maps:∀A l es st,h.blks.get A=some (.map es st)→ρ A=some l→∃es' cl,w.heap[l.b]?=some (.map es' cl)∧base≤l.b∧All2 (ERel ρ) es es'.toList
 malias:∀A B es st fs su l m,A≠B→h.blks.get A=some (.map es st)→h.blks.get B=some (.map fs su)→ρ A=some l→ρ B=some m→l.b≠m.b
 fin:∃N,∀A,N≤A→ρ A=none
 mark:∀A c f l,h.okCells A=some c→h.fams.get c.fam=some f→f.since=0→c.ro=false→ρ A=some l→Unmarked w l.b
 loops:Loops P base ρ h w
theorem HRel.congr {P:Program} {base:Nat} {ρ:Ren} {h h':Heap} {w:World} (hr:HRel P base ρ h w) (hb:∀A,h'.blks.get A=h.blks.get A) (hf:∀A,h'.fams.get A=h.fams.get A):HRel P base ρ h' w:=by
 have hok:∀A,h'.okCells A=h.okCells A:=fun A=>by unfold Heap.okCells;simp only[hb,hf]
 exact⟨hr.le,hr.bnd,fun A c h1=>hr.found A c (by rwa [←hb]),fun A c l h1=>hr.cells A c l (by rwa [←hok]),
  fun A B c d l m hne h1 h2=>hr.alias A B c d l m hne (by rwa [←hok]) (by rwa [←hok]),
  fun A l es st h1=>hr.maps A l es st (by rwa [←hb]),fun A B es st fs su l m hne h1 h2=>hr.malias A B es st fs su l m hne (by rwa [←hb]) (by rwa [←hb]),hr.fin,
  fun A c f l h1 h2 h3 h4 h5=>hr.mark A c f l (by rwa [←hok]) (by rwa [←hf]) h3 h4 h5,
  hr.loops.step (fun _ _ h=>h) (fun A r l h1 _ h2=>⟨by rwa [←hb],h2⟩) (fun _ _ h _=>h) (fun A l h1 h2=>.inr ⟨by obtain⟨c,k⟩:=h1;exact⟨c,by rwa [←hb]⟩,h2⟩) (fun A l es st es' cl h1 h2 h3=>.inr ⟨es,by rwa [←hb],h2,h3⟩)⟩
structure Ext (base:Nat) (ρ:Ren) (h:Heap) (w:World) (ρ':Ren) (h':Heap) (w':World):Prop where
 mono:∀A l,ρ A=some l→ρ' A=some l
 new:∀A,ρ' A≠ρ A→h.next≤A∧A<h'.next
 next:h.next≤h'.next
 keep:∀A,A<h.next→(h'.blks.get A).isSome→(h.blks.get A).isSome
 phan:∀A,A<h.next→ρ A=none→h'.blks.get A=h.blks.get A∧h'.fams.get A=h.fams.get A
 below:Below base w w'
 frame:∀r,r<w.heap.size→(∀A l,ρ A=some l→(h.blks.get A).isSome→l.b≠r)→w'.heap[r]?=w.heap[r]?
 newb:∀A l,ρ' A=some l→ρ A=none→w.heap.size≤l.b∨∃B m,ρ B=some m∧(h.blks.get B).isSome∧m.b=l.b
theorem Ext.refl (base:Nat) (ρ:Ren) (h:Heap) (w:World):Ext base ρ h w ρ h w :=
 ⟨fun _ _ h=>h,fun _ h=>absurd rfl h,Nat.le_refl _,fun _ _ h=>h,fun _ _ _=>⟨rfl,rfl⟩,Below.refl _ _,fun _ _ _=>rfl,fun _ _ h h'=>by rw[h] at h';cases h'⟩
theorem Ext.trans {base:Nat} {ρ ρ1 ρ2:Ren} {h h1 h2:Heap} {w w1 w2:World} (wf1:HWF h1)
  (hpre:∀A,h.next≤A→A<h2.next→ρ A=none) (a:Ext base ρ h w ρ1 h1 w1) (b:Ext base ρ1 h1 w1 ρ2 h2 w2):Ext base ρ h w ρ2 h2 w2:=by
 have hρ1:∀A,A<h.next→ρ A=none→ρ1 A=none:=fun A hA hn=>by
  rcases Classical.em (ρ1 A=ρ A) with e|e
  ·rw[e];exact hn
  ·have:=a.new A e;omega
 have hold:∀B m,ρ B=some m→(h1.blks.get B).isSome→B<h.next:=fun B m hB hb=>by
  rcases Nat.lt_or_ge B h.next with hl|hl
  ·exact hl
  ·cases hg:h1.blks.get B with
   | none=>rw[hg] at hb;cases hb
   | some x =>
    have hlt:=wf1.lt hg
    have:=hpre B hl (by have:=b.next;omega)
    rw[hB] at this;cases this
 refine⟨fun A l hA=>b.mono A l (a.mono A l hA),?_,Nat.le_trans a.next b.next,?_,?_,a.below.trans b.below,?_,?_⟩
 ·intro A hne
  by_cases e:ρ1 A=ρ A
  ·have:=b.new A (by rw[e];exact hne)
   exact⟨by have:=a.next;omega,this.2⟩
  ·have:=a.new A e
   exact⟨this.1,by have:=b.next;omega⟩
 ·intro A hA hs
  exact a.keep A hA (b.keep A (by have:=a.next;omega) hs)
 ·intro A hA hn
  have h1':=a.phan A hA hn
  have h2':=b.phan A (by have:=a.next;omega) (hρ1 A hA hn)
  exact⟨h2'.1.trans h1'.1,h2'.2.trans h1'.2⟩
 ·intro r hr hno
  rw[b.frame r (by have:=a.below.size;omega) ?_,a.frame r hr hno]
  intro A l hA hs
  cases hρ:ρ A with
  | some m =>
   have hm:m=l:=by have:=a.mono A m hρ;rw[hA] at this;exact (Option.some.inj this).symm
   subst hm
   exact hno A m hρ (a.keep A (hold A m hρ hs) hs)
  | none =>
   rcases a.newb A l hA hρ with hb|⟨B,m,hB,hs',hm⟩
   ·omega
   ·rw[←hm];exact hno B m hB hs'
 ·intro A l hA hn
  cases hρ:ρ1 A with
  | some m =>
   have hm:m=l:=by have:=b.mono A m hρ;rw[hA] at this;exact (Option.some.inj this).symm
   subst hm
   exact a.newb A m hρ hn
  | none =>
   rcases b.newb A l hA hρ with hb|⟨B,m,hB,hs',hm⟩
   ·exact .inl (by have:=a.below.size;omega)
   ·cases hρB:ρ B with
    | some m' =>
     have e:m'=m:=by have:=a.mono B m' hρB;rw[hB] at this;exact (Option.some.inj this).symm
     subst e
     exact .inr ⟨B,m',hρB,a.keep B (hold B m' hρB hs') hs',hm⟩
    | none =>
     rcases a.newb B m hB hρB with hb|⟨C,k,hC,hsC,hk⟩
     ·exact .inl (by omega)
     ·exact .inr ⟨C,k,hC,hsC,by rw[hk,hm]⟩
theorem Ext.pre {base:Nat} {ρ ρ1:Ren} {h h1 h2:Heap} {w w1:World} (hpre:∀A,h.next≤A→A<h2.next→ρ A=none) (a:Ext base ρ h w ρ1 h1 w1) :
  ∀A,h1.next≤A→A<h2.next→ρ1 A=none:=fun A h1' h2'=>by
 rcases Classical.em (ρ1 A=ρ A) with e|e
 ·rw[e];exact hpre A (by have:=a.next;omega) h2'
 ·have:=a.new A e;omega
end Go.X
end
section
namespace Go.X
open Go.RowKit
theorem VRel.int_inv {ρ:Ren} {k:IntKind} {n:Int} {v:Value} (h:VRel ρ (.int k n) v):v=.int k n:=by cases h;rfl
theorem VRel.bool_inv {ρ:Ren} {b:Bool} {v:Value} (h:VRel ρ (.bool b) v):v=.bool b:=by cases h;rfl
theorem VRel.string_inv {ρ:Ren} {s:ByteArray} {v:Value} (h:VRel ρ (.string s) v):v=.string s:=by cases h;rfl
theorem VRel.ptr_inv {ρ:Ren} {a:Addr} {v:Value} (h:VRel ρ (.pointer (some a)) v):a.spot=none∧∃l,ρ a.block=some l∧v=.pointer (some ⟨l.b,l.o+a.off,none⟩):=by
 cases h with|ptr h=>exact⟨rfl,_,h,rfl⟩
theorem VRel.agg_inv {ρ:Ren} {a:Array Value} {v:Value} (h:VRel ρ (.agg a) v):∃a',v=.agg a'∧LRel ρ a.toList a'.toList:=by
 cases h with|agg ha h=>exact⟨_,rfl,zBK ha h⟩
theorem VRel.tuple_inv {ρ:Ren} {a:Array Value} {v:Value} (h:VRel ρ (.tuple a) v):∃a',v=.tuple a'∧LRel ρ a.toList a'.toList:=by
 cases h with|tuple ha h=>exact⟨_,rfl,zBK ha h⟩
theorem VRel.slice_inv {ρ:Ren} {a:Addr} {n c:Nat} {v:Value} (h:VRel ρ (.slice (some a) n c) v):∃l a' c',ρ a.block=some l∧v=.slice (some a') n c'∧n≤c∧c≤c' ∧
  (0<c'→a'=⟨l.b,l.o+a.off,none⟩)∧(a.spot=none→c=c')∧(∀q,a.spot=some q→l.o+a.off+c'*q≤l.size):=by
 cases h with|slice h1 h2 h3 h4 h5 h6=>exact⟨_,_,_,h1,rfl,h2,h3,h4,h5,h6⟩
theorem VRel.nilslice_inv {ρ:Ren} {n c:Nat} {v:Value} (h:VRel ρ (.slice none n c) v):n=0∧c=0∧v=.slice none 0 0:=by cases h;exact⟨rfl,rfl,rfl⟩
def Val (P:Program) (ρ:Ren) (e:Operand→Value) (o:Oper) (w:World) (v:Value):Prop:=∃v',(execOp e o).run P w=.ok (.value v') w∧VRel ρ v v'
theorem zFt (s:ByteArray):zY s.data.toList=s:=by cases s;simp[zY]
theorem zEt (l:List UInt8):(zY l).data.toList=l:=by simp[zY]
theorem zOJ (s:ByteArray):s.data.toList.length=s.size:=rfl
theorem zOU (a b:ByteArray):zY (a.data.toList++b.data.toList)=a++b:=by
 apply ByteArray.ext;simp[zY,ByteArray.data_append]
theorem zOV (s:ByteArray) (l h:Nat):zY ((s.data.toList.drop l).take (h - l))=s.extract l h:=by
 apply ByteArray.ext
 rw[ByteArray.data_extract]
 apply Array.ext'
 simp[zY,List.take_drop]
section
variable {P:Program} {ρ:Ren} {t:Fr} {e:Operand→Value} {o:Oper} {w:World} {v:Value}
theorem zd {x:Value} (h:(execOp e o).run P w=.ok (.value x) w) (hv:VRel ρ v x):Val P ρ e o w v:=⟨x,h,hv⟩
theorem s_mov {x:Operand} (ho:o.op=.move x∨o.op=.assign x) (hx:VRel ρ (t.eval x) (e x)):Val P ρ e o w (t.eval x) :=
 zd (x:=e x) (by rcases ho with ho|ho<;>simp[execOp,ho]) hx
theorem s_pick {c a b:Operand} {bb:Bool} (ho:o.op=.pick c a b) (hc:VRel ρ (t.eval c) (e c)) (ha:VRel ρ (t.eval a) (e a)) (hb:VRel ρ (t.eval b) (e b)) (h:t.eval c=.bool bb) :
  Val P ρ e o w (if bb then t.eval a else t.eval b):=by
 rw[h] at hc
 refine zd (x:=if bb then e a else e b) (by simp[execOp,ho,hc.bool_inv,asBool]) ?_
 cases bb
 ·exact hb
 ·exact ha
theorem s_nilc {x:Operand} (ho:o.op=.nilCheck x) (hx:VRel ρ (t.eval x) (e x)) (h:zB t (.nilc x)=some v):Val P ρ e o w v:=by
 simp only[zB] at h
 split at h
 ·rename_i a ha
  cases h
  rw[ha] at hx
  obtain⟨hs,l,hl,hv⟩:=hx.ptr_inv
  exact zd (x:=e x) (by simp[execOp,ho,hv]) hx
 ·rename_i f a b hf
  cases h
  rw[hf] at hx
  cases hx':e x<;>rw[hx'] at hx<;>cases hx
  exact zd (x:=e x) (by simp[execOp,ho,hx']) (by rw[hx'];exact .func ‹_› ‹_› ‹_› ‹_›)
 ·cases h
theorem zN8 {op:BinOp} {k:IntKind} {a b:Int} {tt:TypeId} (h:zn op k a b=some v) (hs:op≠.shl) (hs':op≠.shr):(binOp op tt (.int k a) (.int k b)).run P w=.ok v w:=by
 cases op<;>simp_all [zn,zDE,zBL,binOp,Op.intArith,Op.intDiv,Op.intBits,Op.intCmp]
theorem zN9 {op:BinOp} {a b:ByteArray} {tt:TypeId} (h:zB2 op a.data.toList b.data.toList=some v):(binOp op tt (.string a) (.string b)).run P w=.ok v w:=by
 have hl:∀x:ByteArray,x.toList=x.data.toList:=ByteArray.toList_eq
 cases op<;>simp_all [zB2,binOp,Op.stringOp]
 obtain⟨h1,rfl⟩:=h
 rw[if_neg (by unfold zj at h1;omega)]
 simp[zOU]
theorem run_binX {op:BinOp} {x y x' y':Value} {tt:TypeId} (hx:VRel ρ x x') (hy:VRel ρ y y') (h:binX op x y=some v):(binOp op tt x' y').run P w=.ok v w∧VRel ρ v v:=by
 unfold binX at h
 split at h
 ·rename_i k a k' b
  rw[hx.int_inv,hy.int_inv]
  split at h
  ·split at h
   ·cases h
   ·rename_i hb
    cases h
    exact⟨by simp[binOp,Op.shift,hb],.int _ _⟩
  ·split at h
   ·cases h
   ·rename_i hb
    cases h
    exact⟨by simp[binOp,Op.shift,hb],.int _ _⟩
  ·rename_i h1 h2
   split at h
   ·rename_i hk
    subst hk
    refine⟨zN8 h (fun e=>h1 e) (fun e=>h2 e),?_⟩
    cases op<;>simp[zn] at h<;>(first|(subst h;first|exact .int _ _|exact .bool _)|(obtain⟨_,rfl⟩:=h;exact .int _ _))
   ·cases h
 ·rename_i a b
  rw[hx.string_inv,hy.string_inv]
  refine⟨zN9 h,?_⟩
  cases op<;>simp[zB2] at h<;>(first|(subst h;first|exact .string _|exact .bool _)|(obtain⟨_,rfl⟩:=h;exact .string _))
 ·cases h
theorem zOA {op:BinOp} (h:op≠.eql∧op≠.neq) (tt:TypeId) (x y:Operand) (a b:Value):(eqGuard op tt x y a b).run P w=.ok () w:=by
 cases op<;>simp_all [eqGuard]
theorem s_bin {op:BinOp} {x y:Operand} {tt yt:TypeId} (ho:o.op=.binOp op tt x y yt) (hne:op≠.eql∧op≠.neq) (hx:VRel ρ (t.eval x) (e x)) (hy:VRel ρ (t.eval y) (e y)) (h:zB t (.bin op x y)=some v) :
  Val P ρ e o w v:=by
 obtain⟨h1,h2⟩:=run_binX (P:=P) (w:=w) (tt:=tt) hx hy h
 exact zd (x:=v) (by simp[execOp,ho,zOA hne,h1]) h2
theorem s_un {op:UnOp} {x:Operand} {tt:TypeId} (ho:o.op=.unOp op tt x) (hx:VRel ρ (t.eval x) (e x)) (h:zB t (.un op x)=some v):Val P ρ e o w v:=by
 simp only[zB,unX] at h
 split at h
 ·rename_i k n hk
  rw[hk] at hx;cases h
  exact zd (by simp[execOp,ho,hx.int_inv,Op.unary,Op.intArith]) (.int _ _)
 ·rename_i k n hk
  rw[hk] at hx;cases h
  exact zd (by simp[execOp,ho,hx.int_inv,Op.unary,Op.intBits]) (.int _ _)
 ·rename_i b hk
  rw[hk] at hx;cases h
  exact zd (by simp[execOp,ho,hx.bool_inv,Op.unary]) (.bool _)
 ·cases h
theorem s_cint {k kk:IntKind} {x:Operand} {s d:TypeId} (ho:o.op=.convert s d x) (h1:P.underlying s=some (.int kk)) (h2:P.underlying d=some (.int k)) (hx:VRel ρ (t.eval x) (e x)) (h:zB t (.cint k x)=some v) :
  Val P ρ e o w v:=by
 simp only[zB] at h
 split at h
 ·rename_i k' n hk
  rw[hk] at hx;cases h
  exact zd (x:=.int k (k.wrap n)) (by simp[execOp,ho,hx.int_inv,convert,run_underlying h1,run_underlying h2,Conv.intToInt]) (.int _ _)
 ·cases h
theorem s_iface {x:Operand} {tt:TypeId} (ho:o.op=.makeInterface tt x) (h1:∃d,P.underlying tt=some d∧∀ms,d≠.interface ms) (hx:VRel ρ (t.eval x) (e x)):Val P ρ e o w (.iface tt (t.eval x)):=by
 obtain⟨d,h1,h2⟩:=h1
 refine zd (x:=.iface tt (e x)) ?_ (.iface hx)
 cases d<;>simp_all [execOp,Instr.makeInterface,run_underlying h1]
theorem zHj {l:List Operand} (h:∀x∈l,VRel ρ (t.eval x) (e x)):LRel ρ (l.map t.eval) (l.map e):=All2.map_same l h
theorem s_mkfn {fn:Nat} {a b:Array Operand} (ho:o.op=.makeFunc (.func fn) a b) (ha:∀x∈a.toList,VRel ρ (t.eval x) (e x)) (hb:∀x∈b.toList,VRel ρ (t.eval x) (e x)) :
  Val P ρ e o w (.func (.func fn) (a.toList.map t.eval).toArray (b.toList.map t.eval).toArray):=by
 refine zd (x:=.func (.func fn) (a.map e) (b.map e)) (by simp[execOp,ho,Instr.makeFunc]) ?_
 have h1:=zCN (a:=(a.toList.map t.eval).toArray) (a':=a.map e) (by simpa using zHj ha)
 have h2:=zCN (a:=(b.toList.map t.eval).toArray) (a':=b.map e) (by simpa using zHj hb)
 exact .func h1.1 h2.1 h1.2 h2.2
theorem zIl (a b:ByteArray):(a==b)=(a.data.toList==b.data.toList):=by
 show (a.data==b.data)=_
 rw[Bool.eq_iff_iff]
 simp only[beq_iff_eq]
 exact⟨fun h=>by rw[h],fun h=>Array.ext' h⟩
theorem zHG (d:Nat) {tt:TypeId} (hu:P.underlying tt=some .bool) (a b:Bool):(Op.equalIn (d+1) tt (.bool a) (.bool b)).run P w=.ok (a==b) w:=by
 simp only[Op.equalIn,Sem.run_bind,run_underlying hu,Result.andThen_ok];rfl
theorem zBd (tt:TypeId) (x y:Value):Op.equal tt x y=Op.equalIn (9999+1) tt x y:=rfl
theorem zE0 {x y:Value} {b:Bool} (h:eqX .int x y=some b):∃k m n,x=.int k m∧y=.int k n∧b=(m==n):=by
 cases x<;>cases y<;>simp[eqX] at h
 rename_i k m k' n
 obtain⟨rfl,rfl⟩:=h
 exact⟨_,_,_,rfl,rfl,rfl⟩
theorem zE1 {x y:Value} {b:Bool} (h:eqX .str x y=some b):∃m n,x=.string m∧y=.string n∧b=(m.data.toList==n.data.toList):=by
 cases x<;>cases y<;>simp only[eqX,Option.some.injEq,reduceCtorEq] at h
 exact⟨_,_,rfl,rfl,h.symm⟩
theorem zEz {x y:Value} {b:Bool} (h:eqX .bool x y=some b):∃m n,x=.bool m∧y=.bool n∧b=(m==n):=by
 cases x<;>cases y<;>simp only[eqX,Option.some.injEq,reduceCtorEq] at h
 exact⟨_,_,rfl,rfl,h.symm⟩
theorem zCV {neg:Bool} {x y:Operand} {tt yt:TypeId} {b:Bool} (ho:o.op=.binOp (if neg then .neq else .eql) tt x y yt)
  (hg:(eqGuard (if neg then .neq else .eql) tt x y (e x) (e y)).run P w=.ok () w)
  (hb:(binOp .eql tt (e x) (e y)).run P w=.ok (.bool b) w) (hb':(binOp .neq tt (e x) (e y)).run P w=.ok (.bool (!b)) w) :
  Val P ρ e o w (.bool (if neg then !b else b)):=by
 cases neg
 ·exact zd (x:=.bool b) (by simp at ho hg;simp[execOp,ho,hg,hb]) (.bool _)
 ·exact zd (x:=.bool (!b)) (by simp at ho hg;simp[execOp,ho,hg,hb']) (.bool _)
theorem zC7 {op:BinOp} {tt:TypeId} {x y:Operand} {a b:Value} (h:¬(a=.nilIface∧b=.nilIface)) (h2:∀c d,¬(a=.agg c∧b=.agg d)):(eqGuard op tt x y a b).run P w=.ok () w:=by
 have key:∀ (A B:Sem Unit),(match a,b with|.nilIface,.nilIface=>A|.agg _,.agg _=>B|_,_=>pure ()).run P w=.ok () w:=fun A B=>by
  split
  ·exact absurd ⟨rfl,rfl⟩ h
  ·exact absurd ⟨rfl,rfl⟩ (h2 _ _)
  ·rfl
 unfold eqGuard
 split
 all_goals first|(rw[if_neg (by decide)];exact key _ _)|(rw[if_pos (by decide)];rfl)
theorem zFm {neg:Bool} {k:EqK} {x y:Operand} {tt yt:TypeId} (ho:o.op=.binOp (if neg then .neq else .eql) tt x y yt)
  (hk:(k=.int)∨(k=.str)∨(k=.bool∧P.underlying tt=some .bool))
  (hx:VRel ρ (t.eval x) (e x)) (hy:VRel ρ (t.eval y) (e y)) (h:zB t (.eql neg k x y)=some v):Val P ρ e o w v:=by
 simp only[zB] at h
 split at h
 ·rename_i b hb
  cases h
  rcases hk with rfl|rfl|⟨rfl,hu⟩
  ·obtain⟨k,m,n,h1,h2,rfl⟩:=zE0 hb
   rw[h1] at hx;rw[h2] at hy
   refine zCV ho (zC7 (by rw[hx.int_inv];simp) (by rw[hx.int_inv];simp)) ?_ ?_
   ·rw[hx.int_inv,hy.int_inv];simp[binOp,Op.intCmp]
   ·rw[hx.int_inv,hy.int_inv];simp[binOp,Op.intCmp];rfl
  ·obtain⟨m,n,h1,h2,rfl⟩:=zE1 hb
   rw[h1] at hx;rw[h2] at hy
   refine zCV ho (zC7 (by rw[hx.string_inv];simp) (by rw[hx.string_inv];simp)) ?_ ?_
   ·rw[hx.string_inv,hy.string_inv];simp only[binOp,Op.stringOp,ByteArray.toList_eq];rfl
   ·rw[hx.string_inv,hy.string_inv];simp only[binOp,Op.stringOp,ByteArray.toList_eq];rfl
  ·obtain⟨m,n,h1,h2,rfl⟩:=zEz hb
   rw[h1] at hx;rw[h2] at hy
   refine zCV ho (zC7 (by rw[hx.bool_inv];simp) (by rw[hx.bool_inv];simp)) ?_ ?_
   ·rw[hx.bool_inv,hy.bool_inv]
    simp only[binOp,Sem.run_bind,zBd,zHG _ hu,Result.andThen_ok,Sem.run_pure]
   ·rw[hx.bool_inv,hy.bool_inv]
    simp only[binOp,Sem.run_bind,zBd,zHG _ hu,Result.andThen_ok,Sem.run_pure]
 ·cases h
theorem zNH (d:Nat) {tt:TypeId} {el:TypeId} (hu:P.underlying tt=some (.pointer el)) (a b:Option Addr) (h:a=none∨b=none):(Op.equalIn (d+1) tt (.pointer a) (.pointer b)).run P w=.ok (a.isNone&&b.isNone) w:=by
 cases a with
 | none=>simp only[Op.equalIn,Sem.run_bind,run_underlying hu,Result.andThen_ok];cases b<;>rfl
 | some a =>
  obtain rfl:b=none:=by rcases h with h|h;(cases h);exact h
  simp only[Op.equalIn,Sem.run_bind,run_underlying hu,Result.andThen_ok];rfl
theorem zNI (d:Nat) {tt:TypeId} {el:TypeId} (hu:P.underlying tt=some (.slice el)) (a b:Option Addr) (n c n' c':Nat) (h:a=none∨b=none):(Op.equalIn (d+1) tt (.slice a n c) (.slice b n' c')).run P w=.ok (a.isNone&&b.isNone) w:=by
 cases a with
 | none=>simp only[Op.equalIn,Sem.run_bind,run_underlying hu,Result.andThen_ok];cases b<;>rfl
 | some a =>
  obtain rfl:b=none:=by rcases h with h|h;(cases h);exact h
  simp only[Op.equalIn,Sem.run_bind,run_underlying hu,Result.andThen_ok];rfl
theorem zNG (d:Nat) {tt:TypeId} {k el:TypeId} (hu:P.underlying tt=some (.map k el)) (a b:Option Nat) (h:a=none∨b=none):(Op.equalIn (d+1) tt (.map a) (.map b)).run P w=.ok (a.isNone&&b.isNone) w:=by
 cases a with
 | none=>simp only[Op.equalIn,Sem.run_bind,run_underlying hu,Result.andThen_ok];cases b<;>rfl
 | some a =>
  obtain rfl:b=none:=by rcases h with h|h;(cases h);exact h
  simp only[Op.equalIn,Sem.run_bind,run_underlying hu,Result.andThen_ok];rfl
theorem zE2 {tt:TypeId} {x y:Value} {b:Bool} (hne:(∀k n,x≠.int k n)∧(∀k n,x≠.float k n)∧(∀k n m,x≠.complex k n m)∧(∀s,x≠.string s)) (h:(Op.equal tt x y).run P w=.ok b w) :
  (binOp .eql tt x y).run P w=.ok (.bool b) w∧(binOp .neq tt x y).run P w=.ok (.bool (!b)) w:=by
 obtain⟨h1,h2,h3,h4⟩:=hne
 constructor<;>cases x<;>(first|exact absurd rfl (h1 _ _)|exact absurd rfl (h2 _ _)|exact absurd rfl (h3 _ _ _)|exact absurd rfl (h4 _)|skip) <;>
  simp only[binOp,Sem.run_bind,h,Result.andThen_ok,Sem.run_pure]
theorem zNE (d:Nat) {tt:TypeId} {ps rs:Array TypeId} {vv:Bool} (hu:P.underlying tt=some (.func ps rs vv)) {x y x' y':Value} {b:Bool} (hx:VRel ρ x x') (hy:VRel ρ y y') (h:eqX .nfunc x y=some b) :
  (Op.equalIn (d+1) tt x' y').run P w=.ok b w:=by
 cases x<;>cases y<;>simp only[eqX,Option.some.injEq,reduceCtorEq] at h<;>subst h<;>cases hx<;>cases hy <;>
  (simp only[Op.equalIn,Sem.run_bind,run_underlying hu,Result.andThen_ok];rfl)
theorem zIs {a:Option Addr} {v:Value} (h:VRel ρ (.pointer a) v):∃a',v=.pointer a'∧a'.isNone=a.isNone:=by
 cases h<;>exact⟨_,rfl,rfl⟩
theorem zCH {a:Option Addr} {n c:Nat} {v:Value} (h:VRel ρ (.slice a n c) v):∃a' c',v=.slice a' n c'∧a'.isNone=a.isNone:=by
 cases h<;>exact⟨_,_,rfl,rfl⟩
theorem zIr {a:Option Nat} {v:Value} (h:VRel ρ (.map a) v):∃a',v=.map a'∧a'.isNone=a.isNone:=by
 cases h<;>exact⟨_,rfl,rfl⟩
theorem zFS {α:Type} {a b:Option α} (h:(a.isNone||b.isNone)=true):a=none∨b=none:=by
 cases a<;>cases b<;>simp_all
theorem s_nil {neg:Bool} {k:EqK} {x y:Operand} {tt yt:TypeId} (ho:o.op=.binOp (if neg then .neq else .eql) tt x y yt)
  (ht:(k=.nptr∧∃d,P.underlying tt=some (.pointer d))∨(k=.nslice∧∃d,P.underlying tt=some (.slice d))∨(k=.nmap∧∃a b,P.underlying tt=some (.map a b))∨(k=.nfunc∧∃a b c,P.underlying tt=some (.func a b c)))
  (hx:VRel ρ (t.eval x) (e x)) (hy:VRel ρ (t.eval y) (e y)) (h:zB t (.eql neg k x y)=some v):Val P ρ e o w v:=by
 simp only[zB] at h
 split at h
 ·rename_i b hb
  cases h
  suffices hh:((∀k n,e x≠.int k n)∧(∀k n,e x≠.float k n)∧(∀k n m,e x≠.complex k n m)∧(∀s,e x≠.string s))∧e x≠.nilIface∧(∀c,e x≠.agg c)∧(Op.equal tt (e x) (e y)).run P w=.ok b w by
   obtain⟨h1,h2,h3,h4⟩:=hh
   obtain⟨h5,h6⟩:=zE2 h1 h4
   exact zCV ho (zC7 (fun c=>h2 c.1) (fun c _ h=>h3 c h.1)) h5 h6
  rcases ht with ⟨rfl,d,hu⟩|⟨rfl,d,hu⟩|⟨rfl,k,d,hu⟩|⟨rfl,a,c,d,hu⟩
  ·generalize t.eval x=vx at hx hb
   generalize t.eval y=vy at hy hb
   cases vx<;>cases vy<;>simp only[eqX,reduceCtorEq] at hb
   split at hb<;>cases hb
   rename_i a b hn
   obtain⟨a',h1,h1'⟩:=zIs hx
   obtain⟨b',h2,h2'⟩:=zIs hy
   rw[h1,h2,←h1',←h2']
   refine⟨by simp,by simp,by simp,?_⟩
   rw[zBd];exact zNH _ hu _ _ (zFS (by rw[h1',h2'];exact hn))
  ·generalize t.eval x=vx at hx hb
   generalize t.eval y=vy at hy hb
   cases vx<;>cases vy<;>simp only[eqX,reduceCtorEq] at hb
   split at hb<;>cases hb
   rename_i a n c b n' c' hn
   obtain⟨a',_,h1,h1'⟩:=zCH hx
   obtain⟨b',_,h2,h2'⟩:=zCH hy
   rw[h1,h2,←h1',←h2']
   refine⟨by simp,by simp,by simp,?_⟩
   rw[zBd];exact zNI _ hu _ _ _ _ _ _ (zFS (by rw[h1',h2'];exact hn))
  ·generalize t.eval x=vx at hx hb
   generalize t.eval y=vy at hy hb
   cases vx<;>cases vy<;>simp only[eqX,reduceCtorEq] at hb
   split at hb<;>cases hb
   rename_i a b hn
   obtain⟨a',h1,h1'⟩:=zIr hx
   obtain⟨b',h2,h2'⟩:=zIr hy
   rw[h1,h2,←h1',←h2']
   refine⟨by simp,by simp,by simp,?_⟩
   rw[zBd];exact zNG _ hu _ _ (zFS (by rw[h1',h2'];exact hn))
  ·refine⟨?_,?_,?_,by rw[zBd];exact zNE _ hu hx hy hb⟩
   all_goals
    generalize t.eval x=vx at hx hb
    generalize t.eval y=vy at hy hb
    generalize e x=ex at hx ⊢
    cases vx<;>cases vy<;>simp only[eqX,reduceCtorEq] at hb<;>cases hx<;>simp
 ·cases h
theorem zNF (d:Nat) {tt:TypeId} {ms:Array (String×TypeId)} (hu:P.underlying tt=some (.interface ms)) {x y x' y':Value} {b:Bool} (hx:VRel ρ x x') (hy:VRel ρ y y') (h:eqX .ifnil x y=some b) :
  (Op.equalIn (d+1) tt x' y').run P w=.ok b w:=by
 cases x<;>cases y<;>simp only[eqX,Option.some.injEq,reduceCtorEq] at h<;>subst h<;>cases hx<;>cases hy <;>
  (simp only[Op.equalIn,Sem.run_bind,run_underlying hu,Result.andThen_ok];rfl)
theorem zNX {op:BinOp} {tt:TypeId} {x y:Operand} (hc:(zB7 x||zB7 y)=true):(eqGuard op tt x y .nilIface .nilIface).run P w=.ok () w:=by
 unfold eqGuard
 split
 all_goals first|(rw[if_pos (by decide)];rfl)|(rw[if_neg (by decide)];cases x<;>cases y<;>first|(simp[zB7] at hc;done)|rfl)
theorem zNc {x y x':Value} {b:Bool} (hx:VRel ρ x x') (hb:eqX .ifnil x y=some b):((∀k n,x'≠.int k n)∧(∀k n,x'≠.float k n)∧(∀k n m,x'≠.complex k n m)∧(∀s,x'≠.string s))∧∀c,x'≠.agg c:=by
 cases x<;>cases y<;>simp only[eqX,reduceCtorEq] at hb<;>cases hx<;>simp
theorem s_ifnil {neg:Bool} {x y:Operand} {tt yt:TypeId} {ms:Array (String×TypeId)} (ho:o.op=.binOp (if neg then .neq else .eql) tt x y yt) (hu:P.underlying tt=some (.interface ms)) (hc:(zB7 x||zB7 y)=true)
  (hx:VRel ρ (t.eval x) (e x)) (hy:VRel ρ (t.eval y) (e y)) (h:zB t (.eql neg .ifnil x y)=some v):Val P ρ e o w v:=by
 simp only[zB] at h
 split at h
 ·rename_i b hb
  cases h
  have hsh:=zNc hx hb
  have hg:∀op,(eqGuard op tt x y (e x) (e y)).run P w=.ok () w:=fun op=>by
   by_cases hn:e x=.nilIface∧e y=.nilIface
   ·rw[hn.1,hn.2];exact zNX hc
   ·exact zC7 hn fun c d h=>hsh.2 c h.1
  have hq:(Op.equal tt (e x) (e y)).run P w=.ok b w:=by rw[zBd];exact zNF _ hu hx hy hb
  obtain⟨h5,h6⟩:=zE2 hsh.1 hq
  exact zCV ho (hg _) h5 h6
 ·cases h
theorem zCO {lo:Option Operand} {d y n:Nat} (hb:zAx t lo d y=some n) (hr:∀x,lo=some x→VRel ρ (t.eval x) (e x)) :
  (lo=none∧n=d)∨∃x k i,lo=some x∧e x=.int k i∧0≤i∧i≤y∧n=i.toNat:=by
 unfold zAx at hb
 split at hb
 ·exact .inl ⟨rfl,(Option.some.inj hb).symm⟩
 ·rename_i x
  split at hb
  ·rename_i k i hi
   split at hb
   ·rename_i hle
    have:=hr x rfl
    rw[hi] at this
    exact .inr ⟨x,k,i,rfl,this.int_inv,hle.1,hle.2,(Option.some.inj hb).symm⟩
   ·cases hb
  ·cases hb
theorem zCl {k:IntKind} {i:Int} {y:Nat} {c:BoundsCode} (h0:0≤i) (h1:i≤y):(Instr.sliceBound (.int k i) y c).run P w=.ok i.toNat w:=by
 simp[Instr.sliceBound,asIntOf,h0,h1]
theorem zEH {isSl:Bool} {len cap cap' l h m:Nat} {lo hi mx:Option Operand} (hb:zAy t len cap lo hi mx=some (l,h,m)) (hc:cap≤cap')
  (hlo:∀x,lo=some x→VRel ρ (t.eval x) (e x)) (hhi:∀x,hi=some x→VRel ρ (t.eval x) (e x)) (hmx:∀x,mx=some x→VRel ρ (t.eval x) (e x)) (hn:¬(hi=none∧mx≠none)) (hlen:len≤cap) :
  ∃m',(Instr.sliceBounds isSl len cap' (lo.map e) (hi.map e) (mx.map e)).run P w=.ok (l,h,m') w∧l≤h∧h≤m∧m≤m'∧m'≤cap'∧m≤cap∧((mx=none∧m=cap∧m'=cap')∨(mx≠none∧m'=m)):=by
 unfold zAy at hb
 split at hb
 ·rename_i m0 hm0
  split at hb
  ·rename_i h0 hh0
   split at hb
   ·rename_i l0 hl0
    cases hb
    rcases zCO hm0 hmx with ⟨rfl,rfl⟩|⟨xm,km,im,rfl,hem,him0,him1,rfl⟩
    ·rcases zCO hh0 hhi with ⟨rfl,rfl⟩|⟨xh,kh,ih,rfl,heh,hih0,hih1,rfl⟩
     ·rcases zCO hl0 hlo with ⟨rfl,rfl⟩|⟨xl,kl,il,rfl,hel,hil0,hil1,rfl⟩
      ·exact⟨cap',by simp[Instr.sliceBounds],by omega,by omega,hc,Nat.le_refl _,Nat.le_refl _,.inl ⟨rfl,rfl,rfl⟩⟩
      ·refine⟨cap',?_,by omega,by omega,hc,Nat.le_refl _,Nat.le_refl _,.inl ⟨rfl,rfl,rfl⟩⟩
       simp[Instr.sliceBounds,hel,zCl hil0 hil1]
     ·have hr:(Instr.sliceBound (.int kh ih) cap' (if isSl=true then BoundsCode.sliceAcap else BoundsCode.sliceAlen)).run P w=.ok ih.toNat w:=zCl hih0 (by omega)
      rcases zCO hl0 hlo with ⟨rfl,rfl⟩|⟨xl,kl,il,rfl,hel,hil0,hil1,rfl⟩
      ·exact⟨cap',by simp[Instr.sliceBounds,heh,hr],by omega,by omega,hc,Nat.le_refl _,Nat.le_refl _,.inl ⟨rfl,rfl,rfl⟩⟩
      ·refine⟨cap',?_,by omega,by omega,hc,Nat.le_refl _,Nat.le_refl _,.inl ⟨rfl,rfl,rfl⟩⟩
       simp[Instr.sliceBounds,hel,heh,hr,zCl hil0 hil1]
    ·rcases zCO hh0 hhi with ⟨rfl,rfl⟩|⟨xh,kh,ih,rfl,heh,hih0,hih1,rfl⟩
     ·exact absurd ⟨rfl,by simp⟩ hn
     ·have hr0:(Instr.sliceBound (.int km im) cap' (if isSl=true then BoundsCode.slice3Acap else BoundsCode.slice3Alen)).run P w=.ok im.toNat w:=zCl him0 (by omega)
      have hr:(Instr.sliceBound (.int kh ih) im.toNat BoundsCode.slice3B).run P w=.ok ih.toNat w:=zCl hih0 hih1
      rcases zCO hl0 hlo with ⟨rfl,rfl⟩|⟨xl,kl,il,rfl,hel,hil0,hil1,rfl⟩
      ·exact⟨_,by simp[Instr.sliceBounds,heh,hem,hr,hr0],by omega,by omega,Nat.le_refl _,by omega,by omega,.inr ⟨by simp,rfl⟩⟩
      ·refine⟨_,by simp[Instr.sliceBounds,heh,hem,hel,hr,hr0,zCl hil0 hil1],by omega,by omega,Nat.le_refl _,by omega,by omega,.inr ⟨by simp,rfl⟩⟩
   ·cases hb
  ·cases hb
 ·cases hb
end
end Go.X
end
section
namespace Go.X
open Go.RowKit
section
variable {P:Program} {ρ:Ren} {t:Fr} {e:Operand→Value} {o:Oper} {w:World} {v:Value}
theorem zAJ {ty:TypeId} {n:Nat} (h:zZ P ty=some n):(sizeOf ty).run P w=.ok n w:=by
 unfold zZ at h
 split at h
 ·rename_i i hi
  cases h
  simp[sizeOf,typeInfo,hi]
 ·cases h
theorem zCZ {ty:TypeId} {b:Bool} (h:zw P ty=some b):(isAgg ty).run P w=.ok b w:=by
 unfold zw at h
 split at h
 ·rename_i fs hu;cases h;simp[isAgg,run_underlying hu]
 ·rename_i n el hu;cases h;simp[isAgg,run_underlying hu]
 ·rename_i d h1 h2 hu
  cases h
  simp only[isAgg,Sem.run_bind,run_underlying hu,Result.andThen_ok]
  cases d<;>first|rfl|exact absurd hu (by simp_all)
 ·cases h
theorem zCu {ty:TypeId} {z:List Value} (h:z9 P ty=some z):∃v,(∀w,(zeroValue ty).run P w=.ok v w)∧v.cells.toList=z∧z.all zp=true:=by
 unfold z9 at h
 split at h
 ·rename_i i hi
  split at h
  ·rename_i v hz
   split at h
   ·rename_i hna
    cases h
    exact⟨v,fun w=>by simp[zeroValue,typeInfo,hi,hz],(zB4 v).symm,hna⟩
   ·cases h
  ·cases h
 ·cases h
theorem zBy {ty:TypeId} {z:Value} (h:zBx P ty=some z):(∀w,(zeroValue ty).run P w=.ok z w)∧(zi z).all zp=true:=by
 unfold zBx at h
 split at h
 ·rename_i i hi
  split at h
  ·rename_i v hz
   split at h
   ·rename_i hna
    cases h
    exact⟨fun w=>by simp[zeroValue,typeInfo,hi,hz],hna⟩
   ·cases h
  ·cases h
 ·cases h
theorem s_slcS {tt:TypeId} {x:Operand} {lo hi:Option Operand} (ho:o.op=.slice tt x lo hi none) (hu:P.underlying tt=some .string)
  (hx:VRel ρ (t.eval x) (e x)) (hlo:∀x,lo=some x→VRel ρ (t.eval x) (e x)) (hhi:∀x,hi=some x→VRel ρ (t.eval x) (e x)) (h:zB t (.slcS x lo hi)=some v):Val P ρ e o w v:=by
 simp only[zB] at h
 split at h
 ·rename_i s hs
  rw[hs] at hx
  split at h
  ·rename_i l hh m hb
   cases h
   obtain⟨m',hr,_⟩:=zEH (P:=P) (w:=w) (ρ:=ρ) (e:=e) (isSl:=false) (mx:=none) hb (Nat.le_refl _) hlo hhi (by simp) (by simp) (Nat.le_refl _)
   rw[zOJ] at hr
   refine zd (x:=.string (s.extract l hh)) ?_ (by rw[zOV];exact .string _)
   simp only[Option.map_none] at hr
   simp[execOp,ho,hx.string_inv,Instr.sliceAt,Instr.slice,run_underlying hu,hr]
  ·cases h
 ·cases h
theorem zOD {s d:TypeId} {x:Operand} (ho:o.op=.convert s d x) (h1:P.underlying s=some .string) (h2:P.underlying d=some .string) (hx:VRel ρ (t.eval x) (e x)) (h:zB t (.slcS x none none)=some v):Val P ρ e o w v:=by
 simp only[zB] at h
 split at h
 ·rename_i s hs
  rw[hs] at hx
  split at h
  ·rename_i l hh m hb
   cases h
   simp only[zAy,zAx,Option.some.injEq,Prod.mk.injEq] at hb
   obtain⟨rfl,rfl,rfl⟩:=hb
   refine zd (x:=.string s) ?_ ?_
   ·simp[execOp,ho,hx.string_inv,convert,run_underlying h1,run_underlying h2]
   ·have:zY (((s.data.toList).drop 0).take (s.data.toList.length - 0))=s:=by
     rw[List.drop_zero,Nat.sub_zero,List.take_length];exact zFt s
    rw[this];exact .string _
  ·cases h
 ·cases h
theorem zAZ (b o n:Nat):(⟨b,o,none⟩:Addr).add n=⟨b,o+n,none⟩:=by
 unfold Addr.add;split
 ·rename_i h;subst h;rfl
 ·rfl
theorem s_slc {tt el:TypeId} {n:Nat} {x:Operand} {lo hi mx:Option Operand} (ho:o.op=.slice tt x lo hi mx) (hu:P.underlying tt=some (.slice el)) (hn:zZ P el=some n) (hh:¬(hi=none∧mx≠none))
  (hx:VRel ρ (t.eval x) (e x)) (hlo:∀x,lo=some x→VRel ρ (t.eval x) (e x)) (hhi:∀x,hi=some x→VRel ρ (t.eval x) (e x)) (hmx:∀x,mx=some x→VRel ρ (t.eval x) (e x)) (h:zB t (.slc n x lo hi mx)=some v):Val P ρ e o w v:=by
 simp only[zB] at h
 split at h
 ·rename_i a len cap hs
  rw[hs] at hx
  split at h
  ·rename_i l e' m hb
   cases a with
   | none =>
    cases h
    obtain⟨rfl,rfl,hv⟩:=hx.nilslice_inv
    obtain⟨m',hr,h1,h2,h3,h4,h5,_⟩:=zEH (P:=P) (w:=w) (ρ:=ρ) (e:=e) (isSl:=true) hb (Nat.le_refl _) hlo hhi hmx hh (Nat.le_refl _)
    obtain rfl:m'=0:=by omega
    obtain rfl:m=0:=by omega
    obtain rfl:e'=0:=by omega
    obtain rfl:l=0:=by omega
    exact zd (x:=.slice none 0 0) (by simp[execOp,ho,hv,Instr.sliceAt,Instr.slice,run_underlying hu,hr,zAJ hn]) .nilslice
   | some a =>
    simp only at h
    split at h
    ·rename_i hsp
     cases h
     obtain⟨L,a',c',hL,hv,hle,hcc,haddr,hex,hq⟩:=hx.slice_inv
     obtain⟨m',hr,h1,h2,h3,h4,h5,h6⟩:=zEH (P:=P) (w:=w) (ρ:=ρ) (e:=e) (isSl:=true) hb hcc hlo hhi hmx hh hle
     refine zd (x:=.slice (if m'=l then some a' else some (a'.add (l*n))) (e' - l) (m' - l)) (by simp[execOp,ho,hv,Instr.sliceAt,Instr.slice,run_underlying hu,hr,zAJ hn]) ?_
     rw[show (if m'=l then some a' else some (a'.add (l*n)))=some (if m'=l then a' else a'.add (l*n)) from by split<;>rfl]
     refine .slice hL (by omega) (by omega) ?_ ?_ ?_
     ·intro hp
      have hc0:0<c':=by omega
      rw[if_neg (by omega),haddr hc0,zAZ]
      simp only[Addr.mk.injEq,true_and,and_true]
      omega
     ·intro hs0
      have:=hex hs0
      rcases h6 with ⟨_,rfl,rfl⟩|⟨_,rfl⟩<;>omega
     ·intro q hs1
      have hqn:q=n:=by
       rcases hsp with hs|hs
       ·rw[hs] at hs1;cases hs1
       ·rw[hs] at hs1;exact (Option.some.inj hs1).symm
      subst hqn
      have:=hq q hs1
      have e1:m'*q=l*q+(m' - l)*q:=by rw[←Nat.add_mul];congr 1;omega
      have e2:m'*q≤c'*q:=Nat.mul_le_mul_right q h4
      omega
    ·cases h
  ·cases h
 ·cases h
theorem s_slcA {tt el:TypeId} {k n:Nat} {x:Operand} {lo hi mx:Option Operand} (ho:o.op=.slice tt x lo hi mx) (hu:P.underlying tt=some (.array k el)) (hn:zZ P el=some n) (hh:¬(hi=none∧mx≠none))
  (hx:VRel ρ (t.eval x) (e x)) (hlo:∀x,lo=some x→VRel ρ (t.eval x) (e x)) (hhi:∀x,hi=some x→VRel ρ (t.eval x) (e x)) (hmx:∀x,mx=some x→VRel ρ (t.eval x) (e x)) (h:zB t (.slcA k n x lo hi mx)=some v):Val P ρ e o w v:=by
 simp only[zB] at h
 split at h
 ·rename_i a hs
  rw[hs] at hx
  split at h
  ·rename_i l e' m hb
   cases h
   obtain⟨hsp,L,hL,hv⟩:=hx.ptr_inv
   obtain⟨m',hr,h1,h2,h3,h4,h5,h6⟩:=zEH (P:=P) (w:=w) (ρ:=ρ) (e:=e) (isSl:=false) hb (Nat.le_refl _) hlo hhi hmx hh (Nat.le_refl _)
   have hmm:m'=m:=by rcases h6 with ⟨_,rfl,rfl⟩|⟨_,rfl⟩<;>rfl
   subst hmm
   refine zd (x:=.slice (some (if m'=l then ⟨L.b,L.o+a.off,none⟩ else (⟨L.b,L.o+a.off,none⟩:Addr).add (l*n))) (e' - l) (m' - l))
    (by simp[execOp,ho,hv,Instr.sliceAt,Instr.sureAddr,run_underlying hu,hr,zAJ hn]) ?_
   rw[hsp]
   refine .slice hL (by omega) (by omega) ?_ (fun _=>rfl) (fun q hq=>by cases hq)
   intro hp
   rw[if_neg (by omega),zAZ]
   simp only[Addr.mk.injEq,true_and,and_true]
   omega
  ·cases h
 ·cases h
theorem s_faddr {s:TypeId} {fs:Array Field} {f:Nat} {fd:Field} {n:Nat} {x:Operand} (ho:o.op=.fieldAddr s x f) (hu:P.underlying s=some (.struct fs)) (hf:fs[f]?=some fd) (hn:zZ P fd.type=some n) (h0:n≠0)
  (hx:VRel ρ (t.eval x) (e x)) (h:zB t (.faddr fd.offset x)=some v):Val P ρ e o w v:=by
 simp only[zB] at h
 split at h
 ·rename_i a hs
  rw[hs] at hx
  cases h
  obtain⟨hsp,L,hL,hv⟩:=hx.ptr_inv
  refine zd (x:=.pointer (some ⟨L.b,L.o+(a.off+fd.offset),none⟩)) ?_ (by rw[hsp];exact .ptr hL)
  simp[execOp,ho,hv,Instr.fieldAt,run_underlying hu,hf,Instr.sureAddr,fieldPlace,zAJ hn,h0,zAZ,Nat.add_assoc]
 ·cases h
theorem zFu {l:List Value} {off n:Nat} {r:List Value} (h:zAD l off n=some r):off+n≤l.length∧r=(l.drop off).take n:=by
 unfold zAD at h
 cases hc:(off+n).ble l.length with
 | false=>rw[hc] at h;cases h
 | true=>rw[hc] at h;exact⟨Nat.le_of_ble_eq_true hc,(Option.some.inj h).symm⟩
theorem zDv (cs:Array Value) (off n:Nat):(cs.extract off (off+n)).toList=(cs.toList.drop off).take n:=by
 simp[List.take_drop,Array.toList_extract]
theorem zEE {ty:TypeId} {n off:Nat} {cs:Array Value} (h1:zw P ty=some true) (h2:zZ P ty=some n):(part ty cs off).run P w=.ok (.agg (cs.extract off (off+n))) w:=by
 simp[part,zCZ h1,zAJ h2]
theorem zBn {ty:TypeId} {off:Nat} {cs:Array Value} {u:Value} (h1:zw P ty=some false) (h2:cs[off]?=some u):(part ty cs off).run P w=.ok u w:=by
 simp[part,zCZ h1,h2]
theorem s_field1 {s:TypeId} {fs:Array Field} {f:Nat} {fd:Field} {x:Operand} (ho:o.op=.field s x f) (hu:P.underlying s=some (.struct fs)) (hf:fs[f]?=some fd) (ha:zw P fd.type=some false)
  (hx:VRel ρ (t.eval x) (e x)) (h:zB t (.field1 fd.offset x)=some v):Val P ρ e o w v:=by
 simp only[zB] at h
 split at h
 ·rename_i cs hs
  rw[hs] at hx
  obtain⟨cs',hv,hl⟩:=hx.agg_inv
  obtain⟨u,hu',hr⟩:=hl.get? h
  exact zd (x:=u) (by simp[execOp,ho,hv,Instr.field,run_underlying hu,hf,asAgg,zBn ha (by simpa using hu')]) hr
 ·cases h
theorem s_fieldN {s:TypeId} {fs:Array Field} {f:Nat} {fd:Field} {n:Nat} {x:Operand} (ho:o.op=.field s x f) (hu:P.underlying s=some (.struct fs)) (hf:fs[f]?=some fd) (ha:zw P fd.type=some true) (hn:zZ P fd.type=some n)
  (hx:VRel ρ (t.eval x) (e x)) (h:zB t (.fieldN fd.offset n x)=some v):Val P ρ e o w v:=by
 simp only[zB] at h
 split at h
 ·rename_i cs hs
  rw[hs] at hx
  split at h
  ·rename_i l hl
   cases h
   obtain⟨cs',hv,hrel⟩:=hx.agg_inv
   obtain⟨_,rfl⟩:=zFu hl
   exact zd (x:=.agg (cs'.extract fd.offset (fd.offset+n))) (by simp[execOp,ho,hv,Instr.field,run_underlying hu,hf,asAgg,zEE ha hn])
    (VRel.agg_of (by rw[zDv];exact (hrel.drop _).take _))
  ·cases h
 ·cases h
theorem s_iaddrA {tt el:TypeId} {k n:Nat} {x i:Operand} (ho:o.op=.indexAddr tt x i) (hu:P.underlying tt=some (.array k el)) (hn:zZ P el=some n)
  (hx:VRel ρ (t.eval x) (e x)) (hi:VRel ρ (t.eval i) (e i)) (h:zB t (.iaddrA k n x i)=some v):Val P ρ e o w v:=by
 simp only[zB] at h
 split at h
 ·rename_i a kk ii hs1 hs2
  rw[hs1] at hx;rw[hs2] at hi
  split at h
  ·rename_i hb
   cases h
   obtain⟨hsp,L,hL,hv⟩:=hx.ptr_inv
   refine zd (x:=.pointer (some ⟨L.b,L.o+(a.off+ii.toNat*n),none⟩)) ?_ (by rw[hsp];exact .ptr hL)
   simp[execOp,ho,hv,hi.int_inv,Instr.indexAt,run_underlying hu,Instr.sureAddr,asIntOf,hb.1,hb.2,zAJ hn,zAZ,Nat.add_assoc]
  ·cases h
 ·cases h
theorem s_iaddrS {tt el:TypeId} {n:Nat} {x i:Operand} (ho:o.op=.indexAddr tt x i) (hu:P.underlying tt=some (.slice el)) (hn:zZ P el=some n)
  (hx:VRel ρ (t.eval x) (e x)) (hi:VRel ρ (t.eval i) (e i)) (h:zB t (.iaddrS n x i)=some v):Val P ρ e o w v:=by
 simp only[zB] at h
 split at h
 ·rename_i a len c kk ii hs1 hs2
  rw[hs1] at hx;rw[hs2] at hi
  split at h
  ·rename_i hb
   cases h
   obtain⟨L,a',c',hL,hv,hle,hcc,haddr,_⟩:=hx.slice_inv
   have ha:=haddr (by omega)
   refine zd (x:=.pointer (some ⟨L.b,L.o+(a.off+ii.toNat*n),none⟩)) ?_ (.ptr hL)
   simp[execOp,ho,hv,hi.int_inv,Instr.indexAt,run_underlying hu,asIntOf,hb.1,hb.2,zAJ hn,ha,zAZ,Nat.add_assoc]
  ·cases h
 ·cases h
theorem s_idxA1 {tt el:TypeId} {k:Nat} {x i:Operand} (ho:o.op=.index tt x i) (hu:P.underlying tt=some (.array k el)) (ha:zw P el=some false) (hn:zZ P el=some 1)
  (hx:VRel ρ (t.eval x) (e x)) (hi:VRel ρ (t.eval i) (e i)) (h:zB t (.idxA1 k x i)=some v):Val P ρ e o w v:=by
 simp only[zB] at h
 split at h
 ·rename_i cs kk ii hs1 hs2
  rw[hs1] at hx;rw[hs2] at hi
  split at h
  ·rename_i hb
   obtain⟨cs',hv,hl⟩:=hx.agg_inv
   obtain⟨u,hu',hr⟩:=hl.get? h
   exact zd (x:=u) (by simp[execOp,ho,hv,hi.int_inv,Instr.index,run_underlying hu,asIntOf,hb.1,hb.2,zAJ hn,zBn ha (by simpa using hu')]) hr
  ·cases h
 ·cases h
theorem s_idxAN {tt el:TypeId} {k n:Nat} {x i:Operand} (ho:o.op=.index tt x i) (hu:P.underlying tt=some (.array k el)) (ha:zw P el=some true) (hn:zZ P el=some n)
  (hx:VRel ρ (t.eval x) (e x)) (hi:VRel ρ (t.eval i) (e i)) (h:zB t (.idxAN k n x i)=some v):Val P ρ e o w v:=by
 simp only[zB] at h
 split at h
 ·rename_i cs kk ii hs1 hs2
  rw[hs1] at hx;rw[hs2] at hi
  split at h
  ·rename_i hb
   split at h
   ·rename_i l hl
    cases h
    obtain⟨cs',hv,hrel⟩:=hx.agg_inv
    obtain⟨_,rfl⟩:=zFu hl
    exact zd (x:=.agg (cs'.extract (ii.toNat*n) (ii.toNat*n+n))) (by simp[execOp,ho,hv,hi.int_inv,Instr.index,run_underlying hu,asIntOf,hb.1,hb.2,zAJ hn,zEE ha hn])
     (VRel.agg_of (by rw[zDv];exact (hrel.drop _).take _))
   ·cases h
  ·cases h
 ·cases h
theorem s_idxS {tt:TypeId} {x i:Operand} (ho:o.op=.index tt x i) (hu:P.underlying tt=some .string) (hx:VRel ρ (t.eval x) (e x)) (hi:VRel ρ (t.eval i) (e i)) (h:zB t (.idxS x i)=some v):Val P ρ e o w v:=by
 simp only[zB] at h
 split at h
 ·rename_i s kk ii hs1 hs2
  rw[hs1] at hx;rw[hs2] at hi
  split at h
  ·rename_i hb
   split at h
   ·rename_i b hb'
    cases h
    have h2:s[ii.toNat]?=some b:=by
     have h3:s.data[ii.toNat]?=some b:=by simpa using hb'
     obtain⟨hlt,he⟩:=Array.getElem?_eq_some_iff.1 h3
     rw[getElem?_pos s ii.toNat hlt]
     exact congrArg some he
    exact zd (x:=.int .u8 b.toNat) (by simp[execOp,ho,hx.string_inv,hi.int_inv,Instr.index,run_underlying hu,asIntOf,hb,h2]) (.int _ _)
   ·cases h
  ·cases h
 ·cases h
theorem zOE {tt xt:TypeId} {z:Value} {ok:Bool} {x:Operand} (ho:o.op=.typeAssert x xt tt ok) (hu:∃d,P.underlying tt=some d∧∀ms,d≠.interface ms) (hz:zBx P tt=some z) (hzr:VRel ρ z z)
  (hx:VRel ρ (t.eval x) (e x)) (h:zB t (.tassert tt z ok x)=some v):Val P ρ e o w v:=by
 obtain⟨d,hu,hne⟩:=hu
 have two:∀ (v:Value) (b:Bool) {v':Value},VRel ρ v v'→VRel ρ (.tuple #[v,.bool b]) (.tuple #[v',.bool b]):=fun v b v' hv =>
  VRel.tuple_of (.cons hv (.cons (.bool _) .nil))
 simp only[zB] at h
 split at h
 ·rename_i u y hs
  rw[hs] at hx
  cases hx':e x<;>rw[hx'] at hx<;>cases hx
  rename_i hy
  split at h
  ·rename_i hut
   subst hut
   cases h
   cases ok
   ·exact zd (by cases d<;>simp_all [execOp,Instr.typeAssert,run_underlying hu]) hy
   ·exact zd (by cases d<;>simp_all [execOp,Instr.typeAssert,run_underlying hu]) (two _ _ hy)
  ·rename_i hut
   split at h
   ·cases h
    rename_i hok
    subst hok
    exact zd (x:=.tuple #[z,.bool false]) (by cases d<;>simp_all [execOp,Instr.typeAssert,run_underlying hu,(zBy hz).1]) (two _ _ hzr)
   ·cases h
 ·rename_i hs
  rw[hs] at hx
  cases hx':e x<;>rw[hx'] at hx<;>cases hx
  split at h
  ·cases h
   rename_i hok
   subst hok
   exact zd (x:=.tuple #[z,.bool false]) (by cases d<;>simp_all [execOp,Instr.typeAssert,run_underlying hu,(zBy hz).1]) (two _ _ hzr)
  ·cases h
 ·cases h
theorem s_ext {x:Operand} {i:Nat} (ho:o.op=.extract x i) (hx:VRel ρ (t.eval x) (e x)) (h:zB t (.ext x i)=some v):Val P ρ e o w v:=by
 simp only[zB] at h
 split at h
 ·rename_i vs hs
  rw[hs] at hx
  obtain⟨vs',hv,hl⟩:=hx.tuple_inv
  obtain⟨u,hu,hr⟩:=hl.get? h
  have hu':vs'[i]?=some u:=by simpa using hu
  exact zd (x:=u) (by simp[execOp,ho,hv,Instr.extract,hu']) hr
 ·cases h
theorem zA7 (w:World) {b:Builtin} {args:Array Operand} {ats:Array TypeId} (ho:o.op=.call { callee:=.builtin b,args:=args,argTypes:=ats }) :
  ∃cs,(execOp e o).run P w=(Go.builtin b ats o.type cs (args.map e)).run P w:=by
 refine⟨args.map fun|.const _=>true|_=>false,?_⟩
 simp only[execOp,ho,resolve,invoke,Sem.run_bind,Sem.run_pure,Result.andThen_ok]
 rfl
theorem zA3 {args:Array Operand} {l:List Operand} (h:args.toList=l):args.map e=(l.map e).toArray:=by
 apply Array.ext';simp[h]
theorem s_lenS {args:Array Operand} {ats:Array TypeId} {x:Operand} {ty:TypeId} (ho:o.op=.call { callee:=.builtin .len,args:=args,argTypes:=ats }) (ha:args.toList=[x]) (ht:ats[0]?=some ty) (hu:P.underlying ty=some .string)
  (hx:VRel ρ (t.eval x) (e x)) (h:zB t (.lenS x)=some v):Val P ρ e o w v:=by
 simp only[zB] at h
 split at h
 ·rename_i s hs
  rw[hs] at hx
  cases h
  obtain⟨cs,hr⟩:=zA7 (P:=P) (e:=e) w ho
  refine zd (x:=.int .i64 s.size) ?_ (.int _ _)
  rw[hr,zA3 ha]
  simp[builtin,Builtin.len_,ht,run_underlying hu,hx.string_inv,goInt]
 ·cases h
theorem s_lenV {args:Array Operand} {ats:Array TypeId} {x:Operand} {ty el:TypeId} (ho:o.op=.call { callee:=.builtin .len,args:=args,argTypes:=ats }) (ha:args.toList=[x]) (ht:ats[0]?=some ty) (hu:P.underlying ty=some (.slice el))
  (hx:VRel ρ (t.eval x) (e x)) (h:zB t (.lenV x)=some v):Val P ρ e o w v:=by
 simp only[zB] at h
 split at h
 ·rename_i a n c hs
  rw[hs] at hx
  cases h
  obtain⟨cs,hr⟩:=zA7 (P:=P) (e:=e) w ho
  obtain⟨a',c',hv,_⟩:=zCH hx
  refine zd (x:=.int .i64 n) ?_ (.int _ _)
  rw[hr,zA3 ha]
  simp[builtin,Builtin.len_,ht,run_underlying hu,hv,goInt]
 ·cases h
theorem s_lenC {args:Array Operand} {ats:Array TypeId} {x:Operand} {ty el:TypeId} {n:Nat} (ho:o.op=.call { callee:=.builtin .len,args:=args,argTypes:=ats }) (ha:args.toList=[x]) (ht:ats[0]?=some ty) (hu:P.underlying ty=some (.array n el)) :
  Val P ρ e o w (.int .i64 n):=by
 obtain⟨cs,hr⟩:=zA7 (P:=P) (e:=e) w ho
 refine zd (x:=.int .i64 n) ?_ (.int _ _)
 rw[hr,zA3 ha]
 simp[builtin,Builtin.len_,ht,run_underlying hu,goInt]
theorem run_mm {isMax:Bool} {x y z x' y':Value} (h:mm isMax x y=some z) (hx:VRel ρ x x') (hy:VRel ρ y y') :
  VRel ρ z z∧((if isMax then Builtin.max2 x' y' else Builtin.min2 x' y'):Sem Value).run P w=.ok z w:=by
 cases x<;>cases y<;>simp only[mm,reduceCtorEq] at h
 split at h
 ·rename_i hk
  subst hk
  cases h
  refine⟨.int _ _,?_⟩
  rw[hx.int_inv,hy.int_inv]
  cases isMax<;>rfl
 ·cases h
theorem zIO {isMax:Bool}:∀ (l:List Operand) {x x' v:Value},mms t isMax x l=some v→VRel ρ x x'→(∀y∈l,VRel ρ (t.eval y) (e y)) →
  ∃v',((l.map e).foldlM (if isMax then Builtin.max2 else Builtin.min2) x':Sem Value).run P w=.ok v' w∧VRel ρ v v'
 | [],x,x',v,h,hx,_=>by cases h;exact⟨x',rfl,hx⟩
 | y::l,x,x',v,h,hx,hy=>by
  simp only[mms] at h
  split at h
  ·rename_i z hz
   obtain⟨h1,h2⟩:=run_mm (P:=P) (w:=w) hz hx (hy y (by simp))
   obtain⟨v',h3,h4⟩:=zIO l h h1 fun q hq=>hy q (by simp[hq])
   refine⟨v',?_,h4⟩
   cases isMax
   ·simp only[List.map_cons,List.foldlM_cons,Sem.run_bind] at h2 h3 ⊢
    simp only[Bool.false_eq_true,if_false] at h2 h3 ⊢
    rw[h2];exact h3
   ·simp only[List.map_cons,List.foldlM_cons,Sem.run_bind] at h2 h3 ⊢
    simp only[if_true] at h2 h3 ⊢
    rw[h2];exact h3
  ·cases h
theorem zIQ {args:Array Operand} {ats:Array TypeId} {x:Operand} {l:List Operand} {isMax:Bool} (ho:o.op=.call { callee:=.builtin (if isMax then .max else .min),args:=args,argTypes:=ats }) (ha:args.toList=x::l)
  (hx:∀y∈x::l,VRel ρ (t.eval y) (e y)) (h:zB t (.minmax isMax x l)=some v):Val P ρ e o w v:=by
 obtain⟨cs,hr⟩:=zA7 (P:=P) (e:=e) w ho
 obtain⟨v',h1,h2⟩:=zIO (P:=P) (w:=w) l h (hx x (by simp)) fun y hy=>hx y (by simp[hy])
 refine zd (x:=v') ?_ h2
 rw[hr,zA3 ha]
 cases isMax
 ·simp only[Bool.false_eq_true,if_false] at h1 ⊢
  simp only[builtin,Builtin.min_,List.map_cons,Sem.run_bind,h1,Result.andThen_ok,Sem.run_pure]
 ·simp only[if_true] at h1 ⊢
  simp only[builtin,Builtin.max_,List.map_cons,Sem.run_bind,h1,Result.andThen_ok,Sem.run_pure]
theorem zBs {l:List Value} {off:Nat} {vs:List Value} (h:off+vs.length≤l.length):(putN l off vs).length=l.length:=by
 simp[putN];omega
theorem zIB {l:List Value} {i:Nat} {v:Value} {vs:List Value} (h:i<l.length):putN (l.set i v) (i+1) vs=putN l i (v::vs):=by
 unfold putN
 have hl:(l.take i).length=i:=by rw[List.length_take];omega
 rw[List.set_eq_take_append_cons_drop,if_pos h]
 have e1:(l.take i++v::l.drop (i+1)).take (i+1)=l.take i++[v]:=by
  rw[List.take_append,List.take_of_length_le (by omega),hl,show i+1 - i=1 from by omega];rfl
 have e2:(l.take i++v::l.drop (i+1)).drop (i+1+vs.length)=l.drop (i+(v::vs).length):=by
  rw[List.drop_append,List.drop_of_length_le (by omega),hl,show i+1+vs.length - i=vs.length+1 from by omega,List.drop_succ_cons,List.drop_drop,List.nil_append,List.length_cons]
  congr 1;omega
 rw[e1,e2];simp
theorem zHP (off:Nat):∀ (l:List Value) (k:Nat) (cells:Array Value),off+k+l.length≤cells.size →
  ((l.zipIdx k).foldl (fun cs x=>cs.setIfInBounds (off+x.2) x.1) cells).toList=putN cells.toList (off+k) l
 | [],k,cells,_=>by simp[putN]
 | v::l,k,cells,h=>by
  simp only[List.length_cons] at h
  rw[List.zipIdx_cons,List.foldl_cons,zHP off l (k+1) _ (by simp;omega)]
  rw[Array.toList_setIfInBounds,←Nat.add_assoc,zIB (by simp;omega)]
theorem zNS {cells vs:Array Value} {off:Nat} (h:off+vs.size≤cells.size):(vs.zipIdx.foldl (fun cs x=>cs.setIfInBounds (off+x.2) x.1) cells).toList=putN cells.toList off vs.toList:=by
 rw[←Array.foldl_toList,Array.toList_zipIdx]
 exact zHP off vs.toList 0 cells (by simpa using h)
theorem LRel.putN {l l' vs vs':List Value} (h:LRel ρ l l') (hv:LRel ρ vs vs') (off:Nat):LRel ρ (putN l off vs) (putN l' off vs'):=by
 unfold X.putN
 rw[hv.length]
 exact ((h.take _).append hv).append (h.drop _)
inductive zB0 (place:Nat→Option (Nat×Nat)):List (Nat×Operand)→List (Nat×Nat×Operand)→Prop where
 | nil:zB0 place [] []
 | cons {i off n:Nat} {x:Operand} {l:List (Nat×Operand)} {m:List (Nat×Nat×Operand)}:place i=some (off,n)→zB0 place l m→zB0 place ((i,x)::l) ((off,n,x)::m)
theorem zFl {place:Nat→Option (Nat×Nat)} {l:List (Nat×Operand)} {m:List (Nat×Nat×Operand)} (hp:zB0 place l m):∀ {cells:List Value} {cells':Array Value} {r:List Value},
  LRel ρ cells cells'.toList→(∀y∈l.map (·.2),VRel ρ (t.eval y) (e y))→fill t cells m=some r→∃r',Instr.fill place cells' (l.map fun q=>(q.1,e q.2))=some r'∧LRel ρ r r'.toList:=by
 induction hp with
 | nil=>intro cells cells' r hc _ h;cases h;exact⟨cells',rfl,hc⟩
 | @cons i off n x l m hpl _ ih =>
  intro cells cells' r hc hy h
  simp only[fill] at h
  split at h
  ·rename_i hb
   obtain⟨h1,h2⟩:=hb
   have hx:=(hy x (by simp)).cells
   have hs:(e x).cells.size=n:=by rw[←h1,hx.length,zB4];simp
   have hcs:cells.length=cells'.size:=by rw[hc.length];simp
   have hst:=zNS (cells:=cells') (vs:=(e x).cells) (off:=off) (by omega)
   obtain⟨r',h3,h4⟩:=ih (cells':=(e x).cells.zipIdx.foldl (fun cs x=>cs.setIfInBounds (off+x.2) x.1) cells')
    (by rw[hst];exact hc.putN (by rw[←zB4];exact hx) off) (fun y hy'=>hy y (by simp;right;simpa using hy')) h
   refine⟨r',?_,h4⟩
   simp only[List.map_cons,Instr.fill,hpl]
   rw[if_neg (by simp;omega)]
   exact h3
  ·cases h
theorem LRel.consts {l:List Value} (h:l.all zp=true):LRel ρ l l:=by
 refine All2.refl_of l fun x hx=>?_
 have:=List.all_eq_true.1 h x hx
 cases x<;>(first|(simp[zp] at this;done)|skip)<;>first|exact .bool _|exact .int _ _|exact .string _|exact .nilFunc|exact .nilIface|exact .float _ _|skip
 ·rename_i a;cases a<;>simp_all [zp];exact .nilptr
 ·rename_i a n c
  cases a with
  | none=>cases n<;>cases c<;>simp_all [zp];exact .nilslice
  | some a=>simp[zp] at this
 ·rename_i a;cases a<;>simp_all [zp];exact .nilmap
theorem VRel.const {v:Value} (h:(zi v).all zp=true):VRel ρ v v:=by
 cases v with
 | agg cs=>exact VRel.agg_of (LRel.consts h)
 | tuple vs=>simp[zi,zp] at h
 | bool b=>exact .bool b
 | int k n=>exact .int k n
 | float k n=>exact .float k n
 | string s=>exact .string s
 | nilFunc=>exact .nilFunc
 | nilIface=>exact .nilIface
 | complex k a b=>simp[zi,zp] at h
 | pointer a=>cases a with
  | none=>exact .nilptr
  | some a=>simp[zi,zp] at h
 | slice a n c=>cases a with
  | none=>cases n<;>cases c<;>first|exact .nilslice|(simp[zi,zp] at h;done)
  | some a=>simp[zi,zp] at h
 | map a=>cases a with
  | none=>exact .nilmap
  | some a=>simp[zi,zp] at h
 | chan a=>simp[zi,zp] at h
 | func f a b=>simp[zi,zp] at h
 | iface u y=>simp[zi,zp] at h
theorem zN0:∀ (fs:Array Field) (ns:Array (Nat×Nat)),fs.size=ns.size→(∀ (i:Nat) (h:i<fs.size) (h':i<ns.size),ns[i].1=fs[i].offset∧zZ P fs[i].type=some ns[i].2) →
  (fs.mapM fun f=>do pure (f.offset,←sizeOf f.type):Sem (Array (Nat×Nat))).run P w=.ok ns w:=by
 intro fs ns hl h
 have key:∀ (l:List Field) (m:List (Nat×Nat)),All2 (fun (f:Field) (n:Nat×Nat)=>n.1=f.offset∧zZ P f.type=some n.2) l m →
   (l.mapM fun f=>do pure (f.offset,←sizeOf f.type):Sem (List (Nat×Nat))).run P w=.ok m w:=by
  intro l m hr
  induction hr with
  | nil=>rfl
  | @cons f n l m hfn _ ih =>
   rw[List.mapM_cons,Sem.run_bind]
   have:((do pure (f.offset,←sizeOf f.type)):Sem (Nat×Nat)).run P w=.ok n w:=by
    obtain⟨n1,n2⟩:=n
    simp only at hfn
    rw[Sem.run_bind,zAJ hfn.2,Result.andThen_ok,Sem.run_pure,hfn.1]
   rw[this,Result.andThen_ok,Sem.run_bind,ih,Result.andThen_ok,Sem.run_pure]
 have h2:=key fs.toList ns.toList (All2.of_get (by simpa using hl) fun i h1 h2=>by simpa using h i (by simpa using h1) (by simpa using h2))
 rw[Array.mapM_eq_mapM_toList,Sem.run_map,h2]
 simp
end
end Go.X
end
section
namespace Go.X
open Go.RowKit
section
variable {P:Program} {ρ:Ren} {t:Fr} {e:Operand→Value} {o:Oper} {w:World} {v:Value}
theorem eqK1_rel {k:Nat} {x y x' y':Value} {b:Bool} (hx:VRel ρ x x') (hy:VRel ρ y y') (h:eqK1 k x y=some b):x'=x∧y'=y:=by
 unfold eqK1 at h
 split at h
 ·exact⟨hx.int_inv,hy.int_inv⟩
 ·exact⟨hx.string_inv,hy.string_inv⟩
 ·exact⟨hx.bool_inv,hy.bool_inv⟩
 ·cases h
theorem zHD:∀ {ks:List Nat} {xs ys xs' ys':List Value} {b:Bool},LRel ρ xs xs'→LRel ρ ys ys'→zz ks xs ys=some b→xs'=xs∧ys'=ys
 | [],[],[],_,_,b,hx,hy,_=>by cases hx;cases hy;exact⟨rfl,rfl⟩
 | k::ks,a::as,c::cs,_,_,b,hx,hy,h=>by
  cases hx with
  | cons h1 h2 =>
  cases hy with
  | cons g1 g2 =>
  simp only[zz] at h
  split at h
  ·rename_i u v hu hv
   obtain⟨rfl,rfl⟩:=eqK1_rel h1 g1 hu
   obtain⟨rfl,rfl⟩:=zHD h2 g2 hv
   exact⟨rfl,rfl⟩
  ·cases h
 | [],[],_::_,_,_,_,_,_,h=>by cases h
 | [],_::_,_,_,_,_,_,_,h=>by cases h
 | _::_,[],_,_,_,_,_,_,h=>by cases h
 | _::_,_::_,[],_,_,_,_,_,h=>by cases h
theorem zEy:∀ {ks:List Nat} {xs ys:List Value} {b:Bool},zz ks xs ys=some b→xs.length=ks.length∧ys.length=ks.length
 | [],[],[],_,_=>⟨rfl,rfl⟩
 | k::ks,a::as,c::cs,b,h=>by
  simp only[zz] at h
  split at h
  ·rename_i u v hu hv
   obtain⟨h1,h2⟩:=zEy hv
   exact⟨congrArg (·+1) h1,congrArg (·+1) h2⟩
  ·cases h
 | [],[],_::_,_,h=>by cases h
 | [],_::_,_,_,h=>by cases h
 | _::_,[],_,_,h=>by cases h
 | _::_,_::_,[],_,h=>by cases h
theorem zHC:∀ {ks ls:List Nat} {xs ys:List Value} {b:Bool},zz (ks++ls) xs ys=some b →
  ∃c d,zz ks (xs.take ks.length) (ys.take ks.length)=some c∧zz ls (xs.drop ks.length) (ys.drop ks.length)=some d∧b=(c&&d)
 | [],ls,xs,ys,b,h=>⟨true,b,by simp[zz],by simpa using h,by simp⟩
 | k::ks,ls,a::as,c::cs,b,h=>by
  simp only[List.cons_append,zz] at h
  split at h
  ·rename_i u v hu hv
   cases h
   obtain⟨p,q,h1,h2,rfl⟩:=zHC hv
   exact⟨u&&p,q,by simp[zz,hu,h1],by simpa using h2,by cases u<;>rfl⟩
  ·cases h
 | _::_,_,[],_,_,h=>by cases h
 | _::_,_,_::_,[],_,h=>by cases h
theorem drop_take (l:List Value) (o n a:Nat):((l.drop o).take n).drop a=(l.drop (o+a)).take (n - a):=by
 rw[List.drop_take,List.drop_drop]
theorem zHE {D:Nat} {ok:TypeId→Option (List Nat)}
  (ih:∀ {ty ks},ok ty=some ks→∀ {xs ys:Array Value} {off b},zZ P ty=some ks.length→zz ks ((xs.toList.drop off).take ks.length) ((ys.toList.drop off).take ks.length)=some b →
   ∃u v,(part ty xs off).run P w=.ok u w∧(part ty ys off).run P w=.ok v w∧(Op.equalIn D ty u v).run P w=.ok b w) :
  ∀ {fs:List Field} {off:Nat} {ks:List Nat},zDB P ok off fs=some ks→∀ {xs ys:Array Value} {b:Bool},zz ks ((xs.toList.drop off).take ks.length) ((ys.toList.drop off).take ks.length)=some b →
   (Op.eqFields D xs ys fs).run P w=.ok b w
 | [],off,ks,hk,xs,ys,b,h=>by
  simp only[zDB,Option.some.injEq] at hk
  subst hk
  simp[zz] at h
  subst h
  rfl
 | f::fs,off,ks,hk,xs,ys,b,h=>by
  simp only[zDB] at hk
  split at hk
  ·rename_i k1 h1
   split at hk
   ·rename_i hc
    obtain⟨c1,c2,c3⟩:=hc
    split at hk
    ·rename_i r hr
     cases hk
     obtain⟨c,d,q1,q2,rfl⟩:=zHC h
     have tt:∀l:List Value,((l.drop off).take (k1++r).length).take k1.length=(l.drop off).take k1.length:=fun l=>by
      rw[List.take_take];congr 1;simp
     have td:∀l:List Value,((l.drop off).take (k1++r).length).drop k1.length=(l.drop (off+k1.length)).take r.length:=fun l=>by
      rw[drop_take];congr 1;simp
     rw[tt,tt] at q1
     rw[td,td] at q2
     obtain⟨u,v,p1,p2,p3⟩:=ih h1 c3 q1
     have rest:=zHE ih hr q2
     subst c2
     simp only[Op.eqFields,if_pos c1,Sem.run_bind,p1,p2,p3,Result.andThen_ok]
     cases c
     ·simp
     ·simpa using rest
    ·cases hk
   ·cases hk
  ·cases hk
theorem zFF {ty:TypeId} {k:Nat} {xs ys:Array Value} {off:Nat} {b:Bool} (h:zz [k] ((xs.toList.drop off).take 1) ((ys.toList.drop off).take 1)=some b):∃u v,xs[off]?=some u∧ys[off]?=some v∧eqK1 k u v=some b:=by
 have key:∀l:List Value,((l.drop off).take 1).length=1→∃u,l[off]?=some u∧(l.drop off).take 1=[u]:=fun l hl=>by
  have:off<l.length:=by simp at hl;omega
  exact⟨l[off],List.getElem?_eq_getElem this,by rw[List.drop_eq_getElem_cons this];rfl⟩
 obtain⟨h1,h2⟩:=zEy h
 obtain⟨u,hu,eu⟩:=key _ h1
 obtain⟨v,hv,ev⟩:=key _ h2
 rw[eu,ev] at h
 simp only[zz] at h
 refine⟨u,v,by simpa using hu,by simpa using hv,?_⟩
 split at h
 ·rename_i a c ha hc
  cases hc
  rw[ha]
  simpa using h
 ·cases h
theorem zFD {ty:TypeId} {d:TypeDesc} (hu:P.underlying ty=some d) (h1:∀fs,d≠.struct fs) (h2:∀n el,d≠.array n el):zw P ty=some false:=by
 unfold zw
 rw[hu]
 split
 ·rename_i fs hq;cases hq;exact absurd rfl (h1 _)
 ·rename_i n el hq;cases hq;exact absurd rfl (h2 _ _)
 ·rfl
 ·rename_i hq;cases hq
theorem zNL {ty:TypeId} {fs:Array Field} (hu:P.underlying ty=some (.struct fs)):P.fieldsOf ty=fs:=by simp[Program.fieldsOf,hu]
theorem zHF {d D:Nat} {ty:TypeId} {fs:Array Field} {ks:List Nat} (hu:P.underlying ty=some (.struct fs)) (hk:zBi P (d+1) ty=some ks) {xs ys:Array Value} {b:Bool}
  (ih:∀ {ty ks},zBi P d ty=some ks→∀ {xs ys:Array Value} {off b},zZ P ty=some ks.length→zz ks ((xs.toList.drop off).take ks.length) ((ys.toList.drop off).take ks.length)=some b →
   ∃u v,(part ty xs off).run P w=.ok u w∧(part ty ys off).run P w=.ok v w∧(Op.equalIn D ty u v).run P w=.ok b w)
  (h:zz ks xs.toList ys.toList=some b):(Op.equalIn (D+1) ty (.agg xs) (.agg ys)).run P w=.ok b w:=by
 simp only[zBi,hu] at hk
 split at hk
 ·cases hk
 ·rename_i hp
  have hf:=zNL hu
  rw[run_equalIn_struct w D ty xs ys (by rw[hf];exact hu) (by simpa using hp),hf]
  obtain⟨l1,l2⟩:=zEy h
  refine zHE ih hk ?_
  rw[List.drop_zero,List.drop_zero,List.take_of_length_le (by omega),List.take_of_length_le (by omega)]
  exact h
theorem zHH:∀ (d:Nat) {D:Nat} {ty ks},zBi P d ty=some ks→d≤D→∀ {xs ys:Array Value} {off b},zZ P ty=some ks.length→zz ks ((xs.toList.drop off).take ks.length) ((ys.toList.drop off).take ks.length)=some b →
   ∃u v,(part ty xs off).run P w=.ok u w∧(part ty ys off).run P w=.ok v w∧(Op.equalIn D ty u v).run P w=.ok b w
 | 0,_,_,_,hk,_,_,_,_,_,_,_=>by cases hk
 | d+1,0,_,_,_,hd,_,_,_,_,_,_=>by omega
 | d+1,D+1,ty,ks,hk0,hd,xs,ys,off,b,hs,h=>by
  have hk:=hk0
  simp only[zBi] at hk
  split at hk
  ·rename_i k hu
   cases hk
   obtain⟨u,v,h1,h2,h3⟩:=zFF (ty:=ty) h
   have ha:zw P ty=some false:=zFD hu (fun _ h=>by cases h) (fun _ _ h=>by cases h)
   refine⟨u,v,zBn ha h1,zBn ha h2,?_⟩
   unfold eqK1 at h3
   split at h3
   ·split at h3
    ·rename_i hkk;subst hkk;cases h3
     exact run_equalIn_int w D ty _ _ _ _ hu
    ·cases h3
   ·rename_i hq;cases hq
   ·rename_i hq;cases hq
   ·cases h3
  ·rename_i hu
   cases hk
   obtain⟨u,v,h1,h2,h3⟩:=zFF (ty:=ty) h
   have ha:zw P ty=some false:=zFD hu (fun _ h=>by cases h) (fun _ _ h=>by cases h)
   refine⟨u,v,zBn ha h1,zBn ha h2,?_⟩
   unfold eqK1 at h3
   split at h3
   ·rename_i hq;cases hq
   ·rename_i a c hq;cases h3
    rw[run_equalIn_string w D ty _ _ hu,ByteArray.toList_eq,ByteArray.toList_eq]
   ·rename_i hq;cases hq
   ·cases h3
  ·rename_i hu
   cases hk
   obtain⟨u,v,h1,h2,h3⟩:=zFF (ty:=ty) h
   have ha:zw P ty=some false:=zFD hu (fun _ h=>by cases h) (fun _ _ h=>by cases h)
   refine⟨u,v,zBn ha h1,zBn ha h2,?_⟩
   unfold eqK1 at h3
   split at h3
   ·rename_i hq;cases hq
   ·rename_i hq;cases hq
   ·rename_i a c hq;cases h3
    exact run_equalIn_bool' w D ty _ _ hu
   ·cases h3
  ·rename_i fs hu
   have ha:zw P ty=some true:=by simp[zw,hu]
   refine⟨_,_,zEE ha hs,zEE ha hs,?_⟩
   refine zHF (d:=d) hu hk0 (fun hk=>zHH d hk (by omega)) ?_
   rw[zDv,zDv]
   exact h
  ·cases hk
theorem s_eqs {neg:Bool} {tt yt:TypeId} {fs:Array Field} {ks:List Nat} {x y:Operand} (ho:o.op=.binOp (if neg then .neq else .eql) tt x y yt) (hu:P.underlying tt=some (.struct fs)) (hk:zBi P 5 tt=some ks)
  (hg:P.eqGuardType P.depth tt=false) (hx:VRel ρ (t.eval x) (e x)) (hy:VRel ρ (t.eval y) (e y)) (h:zB t (.eql neg (.cells ks) x y)=some v):Val P ρ e o w v:=by
 simp only[zB] at h
 split at h
 ·rename_i b hb
  cases h
  have key:∃xs ys,t.eval x=.agg xs∧t.eval y=.agg ys∧zz ks xs.toList ys.toList=some b:=by
   generalize t.eval x=a at hb
   generalize t.eval y=c at hb
   cases a<;>cases c<;>simp only[eqX,reduceCtorEq] at hb
   exact⟨_,_,rfl,rfl,hb⟩
  obtain⟨xs,ys,e1,e2,he⟩:=key
  rw[e1] at hx;rw[e2] at hy
  obtain⟨xs',g1,r1⟩:=hx.agg_inv
  obtain⟨ys',g2,r2⟩:=hy.agg_inv
  obtain⟨q1,q2⟩:=zHD r1 r2 he
  obtain rfl:=Array.ext' q1
  obtain rfl:=Array.ext' q2
  have heq:(Op.equal tt (.agg xs') (.agg ys')).run P w=.ok b w:=by
   rw[zBd]
   exact zHF (d:=4) hu hk (fun hk=>zHH 4 hk (by omega)) he
  obtain⟨b1,b2⟩:=zE2 (P:=P) (w:=w) (by simp) heq
  refine zCV ho ?_ ?_ ?_
  ·rw[g1,g2];exact run_eqGuard_agg w _ tt x y xs' ys' hg
  ·rw[g1,g2];exact b1
  ·rw[g1,g2];exact b2
 ·cases h
end
end Go.X
end
section
namespace Go.X
open Go.RowKit
section
variable {P:Program} {ρ:Ren} {t:Fr} {e:Operand→Value} {o:Oper} {w:World} {v:Value}
theorem zOC {tt:TypeId} {ps:Array (Nat×Operand)} {z:List Value} {fs:Array Field} {l:List (Nat×Nat×Operand)} (ho:o.op=.build tt ps) (hz:z9 P tt=some z) (hu:P.underlying tt=some (.struct fs)) (hl:zDP P fs ps.toList=some l)
  (hall:(fs.toList.all fun f=>(zZ P f.type).isSome)=true) (hx:∀y∈ps.toList.map (·.2),VRel ρ (t.eval y) (e y)) (h:zB t (.build z l)=some v):Val P ρ e o w v:=by
 simp only[zB] at h
 split at h
 ·rename_i cs hcs
  cases h
  obtain⟨zv,hzr,hzc,hna⟩:=zCu hz
  have hpl:=zN0 (P:=P) (w:=w) fs (fs.map fun f=>(f.offset,(zZ P f.type).getD 0)) (by simp) (fun i h1 h2=>by
   have hs:(zZ P fs[i].type).isSome:=by
    have:=List.all_eq_true.1 hall fs[i] (by simp)
    simpa using this
   simp only[Array.getElem_map,true_and]
   cases hq:zZ P fs[i].type with
   | none=>rw[hq] at hs;cases hs
   | some n=>rfl)
  have hparts:∀ (qs:List (Nat×Operand)) (l:List (Nat×Nat×Operand)),zDP P fs qs=some l→zB0 ((fs.map fun f=>(f.offset,(zZ P f.type).getD 0))[·]?) qs l:=by
   intro qs
   induction qs with
   | nil=>intro l hl;cases hl;exact .nil
   | cons q qs ih =>
    intro l hl
    obtain⟨i,x⟩:=q
    simp only[zDP] at hl
    split at hl
    ·rename_i f hf
     split at hl
     ·rename_i n r hn hr
      cases hl
      exact .cons (by simp[hf,hn]) (ih _ hr)
     ·cases hl
    ·cases hl
  obtain⟨r',h1,h2⟩:=zFl (hparts _ _ hl) (cells':=zv.cells) (e:=e) (by rw[hzc];exact LRel.consts hna) hx hcs
  refine zd (x:=.agg r') ?_ (VRel.agg_of (by simpa using h2))
  simp only[execOp,ho,Instr.build,Sem.run_bind,hzr,Result.andThen_ok,run_underlying hu,hpl]
  have h1':Instr.fill (fun x=>(fs.map fun f=>(f.offset,(zZ P f.type).getD 0))[x]?) zv.cells (ps.map fun x=>(x.1,e x.2)).toList=some r':=by
   rw[Array.toList_map];exact h1
  rw[h1']
  rfl
 ·cases h
theorem zOB {tt el:TypeId} {k n:Nat} {ps:Array (Nat×Operand)} {z:List Value} (ho:o.op=.build tt ps) (hz:z9 P tt=some z) (hu:P.underlying tt=some (.array k el)) (hn:zZ P el=some n)
  (hx:∀y∈ps.toList.map (·.2),VRel ρ (t.eval y) (e y)) (h:zB t (.build z (ps.toList.map fun q=>(q.1*n,n,q.2)))=some v):Val P ρ e o w v:=by
 simp only[zB] at h
 split at h
 ·rename_i cs hcs
  cases h
  obtain⟨zv,hzr,hzc,hna⟩:=zCu hz
  have hparts:∀ (qs:List (Nat×Operand)),zB0 (fun i=>some (i*n,n)) qs (qs.map fun q=>(q.1*n,n,q.2)):=by
   intro qs
   induction qs with
   | nil=>exact .nil
   | cons q qs ih=>exact .cons rfl ih
  obtain⟨r',h1,h2⟩:=zFl (hparts _) (cells':=zv.cells) (e:=e) (by rw[hzc];exact LRel.consts hna) hx hcs
  refine zd (x:=.agg r') ?_ (VRel.agg_of (by simpa using h2))
  simp only[execOp,ho,Instr.build,Sem.run_bind,hzr,Result.andThen_ok,run_underlying hu,zAJ hn]
  have h1':Instr.fill (fun i=>some (i*n,n)) zv.cells (ps.map fun x=>(x.1,e x.2)).toList=some r':=by
   rw[Array.toList_map];exact h1
  rw[h1']
  rfl
 ·cases h
theorem zb {why:String} {q:Prop} (h:zB t (.stop why)=some v):q:=by cases h
theorem zC0 {op:BinOp} {tt:TypeId} {x y:Operand} (h:op≠.eql∧op≠.neq):binC P op tt x y=.p (.bin op x y):=by
 cases op<;>simp_all [binC]
theorem s_eqC {neg:Bool} {tt yt:TypeId} {x y:Operand} {po:POp} (ho:o.op=.binOp (if neg then .neq else .eql) tt x y yt) (hc:eqC P tt neg x y=.p po) (hx:VRel ρ (t.eval x) (e x)) (hy:VRel ρ (t.eval y) (e y)) (h:zB t po=some v):Val P ρ e o w v:=by
 unfold eqC at hc
 split at hc
 ·cases hc;exact zFm ho (.inl rfl) hx hy h
 ·cases hc;exact zFm ho (.inr (.inl rfl)) hx hy h
 ·rename_i hu;cases hc;exact zFm ho (.inr (.inr ⟨rfl,hu⟩)) hx hy h
 ·rename_i fs hu
  split at hc
  ·rename_i ks hk
   split at hc
   ·cases hc;exact zb h
   ·rename_i hg;cases hc;exact s_eqs ho hu hk (by simpa using hg) hx hy h
  ·cases hc;exact zb h
 ·cases hc;exact zb h
 ·rename_i d hu;cases hc;exact s_nil ho (.inl ⟨rfl,d,hu⟩) hx hy h
 ·rename_i d hu;cases hc;exact s_nil ho (.inr (.inl ⟨rfl,d,hu⟩)) hx hy h
 ·rename_i a b hu;cases hc;exact s_nil ho (.inr (.inr (.inl ⟨rfl,a,b,hu⟩))) hx hy h
 ·rename_i a b c hu;cases hc;exact s_nil ho (.inr (.inr (.inr ⟨rfl,a,b,c,hu⟩))) hx hy h
 ·rename_i ms hu
  split at hc
  ·rename_i hn;cases hc;exact s_ifnil ho hu hn hx hy h
  ·cases hc;exact zb h
 ·cases hc;exact zb h
theorem s_callC {c:Call} {po:POp} (ho:o.op=.call c) (hc:zB3 P c=.p po) (he:∀x∈c.operands,VRel ρ (t.eval x) (e x)) (h:zB t po=some v):Val P ρ e o w v:=by
 obtain⟨cal,args,ats⟩:=c
 cases cal with
 | value f=>cases hc
 | invoke r n=>cases hc;exact zb h
 | builtin b =>
  have he':∀x∈args.toList,VRel ρ (t.eval x) (e x):=fun x hx=>he x (by simp[Call.operands];simpa using hx)
  simp only[zB3] at hc
  split at hc
  ·rename_i x hal
   have h0:∀ty,ats[0]?.bind P.underlying=some ty→∃u,ats[0]?=some u∧P.underlying u=some ty:=fun ty hty=>by
    cases hq:ats[0]? with
    | none=>rw[hq] at hty;cases hty
    | some u=>rw[hq] at hty;exact⟨u,rfl,hty⟩
   split at hc
   ·rename_i n el hu
    obtain⟨u,h1,h2⟩:=h0 _ hu
    cases hc;cases h;exact s_lenC ho hal h1 h2
   ·rename_i hu
    obtain⟨u,h1,h2⟩:=h0 _ hu
    cases hc;exact s_lenS ho hal h1 h2 (he' x (by simp[hal])) h
   ·rename_i el hu
    obtain⟨u,h1,h2⟩:=h0 _ hu
    cases hc;exact s_lenV ho hal h1 h2 (he' x (by simp[hal])) h
   ·cases hc
   ·cases hc;exact zb h
  ·(repeat' split at hc)<;>first|cases hc;done|(cases hc;exact zb h)
  ·(repeat' split at hc)<;>first|cases hc;done|(cases hc;exact zb h)
  ·rename_i x l hal
   cases hc
   exact zIQ (isMax:=false) ho hal (fun y hy=>he' y (by rw[hal];exact hy)) h
  ·rename_i x l hal
   cases hc
   exact zIQ (isMax:=true) ho hal (fun y hy=>he' y (by rw[hal];exact hy)) h
  ·(repeat' split at hc)<;>first|cases hc;done|(cases hc;exact zb h)
  ·(repeat' split at hc)<;>first|cases hc;done|(cases hc;exact zb h)
  ·cases hc;exact zb h
set_option maxHeartbeats 1000000 in
theorem zH9 {po:POp} (hc:opC P o=.p po) (he:∀x∈o.op.operands,VRel ρ (t.eval x) (e x)) (hx:zB t po=some v):Val P ρ e o w v:=by
 cases ho:o.op<;>rw[ho] at he<;>simp only[opC,ho] at hc
 case move x=>cases hc;cases hx;exact s_mov (.inl ho) (he x (by simp[Op.operands]))
 case assign x=>cases hc;cases hx;exact s_mov (.inr ho) (he x (by simp[Op.operands]))
 case pick c a b =>
  cases hc
  simp only[zB] at hx
  split at hx
  ·rename_i bb hb
   cases hx
   exact s_pick ho (he c (by simp[Op.operands])) (he a (by simp[Op.operands])) (he b (by simp[Op.operands])) hb
  ·cases hx
 case alloc el=>split at hc<;>first|cases hc;done|(cases hc;exact zb hx)
 case box el x=>cases hc
 case build tt ps =>
  split at hc
  ·rename_i z fs hz hu
   split at hc
   ·rename_i l hl
    split at hc
    ·rename_i hall
     cases hc
     exact zOC ho hz hu hl hall (fun y hy=>he y (by simpa [Op.operands] using hy)) hx
    ·cases hc;exact zb hx
   ·cases hc;exact zb hx
  ·rename_i z k el hz hu
   split at hc
   ·rename_i n hn
    cases hc
    exact zOB ho hz hu hn (fun y hy=>he y (by simpa [Op.operands] using hy)) hx
   ·cases hc;exact zb hx
  ·cases hc;exact zb hx
 case buildSlice tt len ps=>(repeat' split at hc)<;>first|cases hc;done|(cases hc;exact zb hx)
 case load tt a=>(repeat' split at hc)<;>first|cases hc;done|(cases hc;exact zb hx)
 case store tt a b=>(repeat' split at hc)<;>first|cases hc;done|(cases hc;exact zb hx)
 case nilCheck x=>cases hc;exact s_nilc ho (he x (by simp[Op.operands])) hx
 case binOp op tt x y yt =>
  have hx1:=he x (by simp[Op.operands])
  have hy1:=he y (by simp[Op.operands])
  by_cases h1:op=.eql
  ·subst h1;exact s_eqC (neg:=false) ho hc hx1 hy1 hx
  ·by_cases h2:op=.neq
   ·subst h2;exact s_eqC (neg:=true) ho hc hx1 hy1 hx
   ·rw[zC0 ⟨h1,h2⟩] at hc
    cases hc
    exact s_bin ho ⟨h1,h2⟩ hx1 hy1 hx
 case unOp op tt x=>cases hc;exact s_un ho (he x (by simp[Op.operands])) hx
 case convert s d x =>
  split at hc
  ·rename_i h1 h2;cases hc;exact s_cint ho h1 h2 (he x (by simp[Op.operands])) hx
  ·rename_i h1 h2;cases hc;exact zOD ho h1 h2 (he x (by simp[Op.operands])) hx
  ·split at hc<;>first|cases hc;done|(cases hc;exact zb hx)
  ·split at hc<;>first|cases hc;done|(cases hc;exact zb hx)
  ·cases hc;exact zb hx
 case makeInterface tt x =>
  split at hc
  ·cases hc;exact zb hx
  ·rename_i d hne hu
   cases hc;cases hx
   exact s_iface ho ⟨d,hu,fun ms hm=>hne ms hm⟩ (he x (by simp[Op.operands]))
  ·cases hc;exact zb hx
 case makeFunc fn a b =>
  split at hc
  ·cases hc;cases hx
   exact s_mkfn ho (fun x hx=>he x (by simp[Op.operands];left;simpa using hx)) (fun x hx=>he x (by simp[Op.operands];right;simpa using hx))
  ·cases hc;exact zb hx
 case makeMap tt r=>cases r<;>first|cases hc;done|(cases hc;exact zb hx)
 case makeSlice tt a b=>(repeat' split at hc)<;>first|cases hc;done|(cases hc;exact zb hx)
 case slice tt x lo hi mx =>
  have hx0:=he x (by simp[Op.operands])
  have hlo:∀y,lo=some y→VRel ρ (t.eval y) (e y):=fun y hy=>he y (by simp[Op.operands,hy])
  have hhi:∀y,hi=some y→VRel ρ (t.eval y) (e y):=fun y hy=>he y (by simp[Op.operands,hy])
  have hmx:∀y,mx=some y→VRel ρ (t.eval y) (e y):=fun y hy=>he y (by simp[Op.operands,hy])
  split at hc
  ·rename_i hu
   split at hc
   ·cases hc;exact zb hx
   ·rename_i hm
    cases hc
    cases mx with
    | none=>exact s_slcS ho hu hx0 hlo hhi hx
    | some m=>simp at hm
  ·rename_i el hu
   split at hc
   ·rename_i n hn
    split at hc
    ·cases hc;exact zb hx
    ·rename_i hq
     cases hc
     exact s_slc ho hu hn (by cases mx<;>cases hi<;>simp_all) hx0 hlo hhi hmx hx
   ·cases hc;exact zb hx
  ·rename_i k el hu
   split at hc
   ·rename_i n hn
    split at hc
    ·cases hc;exact zb hx
    ·rename_i hq
     cases hc
     exact s_slcA ho hu hn (by cases mx<;>cases hi<;>simp_all) hx0 hlo hhi hmx hx
   ·cases hc;exact zb hx
  ·cases hc;exact zb hx
 case fieldAddr s x f =>
  split at hc
  ·rename_i fs hu
   split at hc
   ·rename_i fd hf
    split at hc
    ·rename_i n hn
     split at hc
     ·cases hc;exact zb hx
     ·rename_i h0;cases hc;exact s_faddr ho hu hf hn h0 (he x (by simp[Op.operands])) hx
    ·cases hc;exact zb hx
   ·cases hc;exact zb hx
  ·cases hc;exact zb hx
 case field s x f =>
  split at hc
  ·rename_i fs hu
   split at hc
   ·rename_i fd hf
    split at hc
    ·rename_i n ha hn;cases hc;exact s_fieldN ho hu hf ha hn (he x (by simp[Op.operands])) hx
    ·rename_i ha;cases hc;exact s_field1 ho hu hf ha (he x (by simp[Op.operands])) hx
    ·cases hc;exact zb hx
   ·cases hc;exact zb hx
  ·cases hc;exact zb hx
 case indexAddr tt x i =>
  split at hc
  ·rename_i k el hu
   split at hc
   ·rename_i n hn;cases hc;exact s_iaddrA ho hu hn (he x (by simp[Op.operands])) (he i (by simp[Op.operands])) hx
   ·cases hc;exact zb hx
  ·rename_i el hu
   split at hc
   ·rename_i n hn;cases hc;exact s_iaddrS ho hu hn (he x (by simp[Op.operands])) (he i (by simp[Op.operands])) hx
   ·cases hc;exact zb hx
  ·cases hc;exact zb hx
 case index tt x i =>
  split at hc
  ·rename_i hu;cases hc;exact s_idxS ho hu (he x (by simp[Op.operands])) (he i (by simp[Op.operands])) hx
  ·rename_i k el hu
   split at hc
   ·rename_i n ha hn;cases hc;exact s_idxAN ho hu ha hn (he x (by simp[Op.operands])) (he i (by simp[Op.operands])) hx
   ·rename_i ha hn;cases hc;exact s_idxA1 ho hu ha hn (he x (by simp[Op.operands])) (he i (by simp[Op.operands])) hx
   ·cases hc;exact zb hx
  ·cases hc;exact zb hx
 case typeAssert x xt tt ok =>
  split at hc
  ·cases hc;exact zb hx
  ·rename_i d hne hu
   split at hc
   ·rename_i z hz
    cases hc
    exact zOE ho ⟨d,hu,fun ms hm=>hne ms hm⟩ hz (VRel.const (zBy hz).2) (he x (by simp[Op.operands])) hx
   ·cases hc;exact zb hx
  ·cases hc;exact zb hx
 case extract x i=>cases hc;exact s_ext ho (he x (by simp[Op.operands])) hx
 case call c=>exact s_callC ho hc (fun x hx=>he x (by simpa [Op.operands] using hx)) hx
 all_goals (repeat' split at hc)<;>first|cases hc;done|(cases hc;exact zb hx)
end
end Go.X
end
section
namespace Go.X
open Go.RowKit
section
variable {P:Program} {ρ:Ren} {t:Fr} {e:Operand→Value} {o:Oper} {w:World} {v:Value} {base:Nat} {h:Heap}
theorem HRel.row (hr:HRel P base ρ h w) {A:Nat} {c:zAT} {l:Loc} (hc:h.okCells A=some c) (hl:ρ A=some l) {off n:Nat} (hb:off+n≤c.cells.length) :
  ∃r,r.length=n∧LRel ρ ((c.cells.drop off).take n) r∧(∀j v,r[j]?=some v→w.cell? ⟨l.b,l.o+off+j,none⟩=some v)∧l.o+off+n≤l.size:=by
 obtain⟨cs,T,fz,hh,hs,hbd,hrel,_⟩:=hr.cells A c l hc hl
 refine⟨(((cs.toList.drop l.o).take c.cells.length).drop off).take n,?_,(hrel.drop off).take n,?_,?_⟩
 ·simp;omega
 ·intro j v hj
  have hjn:j<n:=by
   rcases Nat.lt_or_ge j n with q|q
   ·exact q
   ·rw[List.getElem?_eq_none (by simp;omega)] at hj;cases hj
  rw[List.getElem?_take,if_pos hjn,List.getElem?_drop,List.getElem?_take,if_pos (by omega),List.getElem?_drop] at hj
  simp only[World.cell?,hh]
  rw[←hj]
  simp[Nat.add_assoc]
 ·omega
theorem Heap.load_some {a:Addr} (hl:h.load a=some v):∃c,h.okCells a.block=some c∧c.cells[a.off]?=some v:=by
 unfold Heap.load at hl
 split at hl
 ·rename_i c hc;exact⟨c,hc,hl⟩
 ·cases hl
theorem Heap.loadN_some {a:Addr} {n:Nat} {l:List Value} (hl:h.loadN a n=some l):∃c,h.okCells a.block=some c∧a.off+n≤c.cells.length∧l=(c.cells.drop a.off).take n:=by
 unfold Heap.loadN at hl
 split at hl
 ·rename_i c hc;exact⟨c,hc,zFu hl⟩
 ·cases hl
theorem HRel.cell (hr:HRel P base ρ h w) {A i:Nat} {c:zAT} {l:Loc} (hc:h.okCells A=some c) (hl:ρ A=some l) (hv:c.cells[i]?=some v):∃v',w.cell? ⟨l.b,l.o+i,none⟩=some v'∧VRel ρ v v':=by
 have hi:i<c.cells.length:=(List.getElem?_eq_some_iff.1 hv).1
 obtain⟨r,hr1,hr2,hr3,_⟩:=hr.row hc hl (off:=i) (n:=1) (by omega)
 have h0:((c.cells.drop i).take 1)[0]?=some v:=by rw[List.getElem?_take,if_pos (by omega),List.getElem?_drop];simpa using hv
 obtain⟨v',h1,h2⟩:=hr2.get? h0
 exact⟨v',by simpa using hr3 0 v' h1,h2⟩
theorem HRel.loadCells (hr:HRel P base ρ h w) {a:Addr} {l:Loc} {n:Nat} {vs:List Value} (hl:ρ a.block=some l) (hv:h.loadN a n=some vs) :
  ∃r,LRel ρ vs r∧vs.length=n∧r.length=n∧(∀j v,r[j]?=some v→w.cell? (Addr.add ⟨l.b,l.o+a.off,none⟩ j)=some v)∧(loadCells ⟨l.b,l.o+a.off,none⟩ n).run P w=.ok r.toArray w:=by
 obtain⟨c,hc,hb,rfl⟩:=Heap.loadN_some hv
 obtain⟨r,h1,h2,h3,_⟩:=hr.row hc hl hb
 have h4:∀j v,r[j]?=some v→w.cell? (Addr.add ⟨l.b,l.o+a.off,none⟩ j)=some v:=fun j v hj=>by rw[zAZ];exact h3 j v hj
 refine⟨r,h2,by simp;omega,h1,h4,?_⟩
 have:=run_loadCells_list (P:=P) w ⟨l.b,l.o+a.off,none⟩ r h4
 rwa [h1] at this
theorem r_load1 {tt:TypeId} {x:Operand} (hr:HRel P base ρ h w) (ho:o.op=.load tt x) (ha:zw P tt=some false) (hx:VRel ρ (t.eval x) (e x)) (hh:zh t h (.load1 x)=some v):Val P ρ e o w v:=by
 simp only[zh] at hh
 split at hh
 ·rename_i a hs
  rw[hs] at hx
  obtain⟨hsp,l,hl,hv⟩:=hx.ptr_inv
  obtain⟨c,hc,hcv⟩:=Heap.load_some hh
  obtain⟨v',h1,h2⟩:=hr.cell hc hl hcv
  exact zd (x:=v') (by simp[execOp,ho,hv,Instr.loadAt,Instr.sureAddr,loadVar,zCZ ha,h1]) h2
 ·cases hh
theorem r_loadN {tt:TypeId} {n:Nat} {x:Operand} (hr:HRel P base ρ h w) (ho:o.op=.load tt x) (ha:zw P tt=some true) (hn:zZ P tt=some n) (hx:VRel ρ (t.eval x) (e x)) (hh:zh t h (.loadN n x)=some v):Val P ρ e o w v:=by
 simp only[zh] at hh
 split at hh
 ·rename_i a hs
  rw[hs] at hx
  split at hh
  ·rename_i vs hvs
   cases hh
   obtain⟨hsp,l,hl,hv⟩:=hx.ptr_inv
   obtain⟨r,h1,_,_,_,h2⟩:=hr.loadCells (P:=P) hl hvs
   exact zd (x:=.agg r.toArray) (by simp[execOp,ho,hv,Instr.loadAt,Instr.sureAddr,loadVar,zCZ ha,zAJ hn,h2]) (VRel.agg_ofL h1)
  ·cases hh
 ·cases hh
theorem zGr:∀ {l:List Value} {bs:List UInt8},zAz l=some bs→∃ns:List Int,l=ns.map (Value.int .u8)∧bs=ns.map fun n=>UInt8.ofNat n.toNat
 | [],bs,h=>by cases h;exact⟨[],rfl,rfl⟩
 | v::l,bs,h=>by
  unfold zAz at h
  split at h
  ·rename_i heq;cases heq
  ·rename_i n rest heq
   cases heq
   split at h
   ·rename_i r hr
    cases h
    obtain⟨ns,rfl,rfl⟩:=zGr hr
    exact⟨n::ns,rfl,rfl⟩
   ·cases h
  ·cases h
theorem LRel.ints {k:IntKind}:∀ {ns:List Int} {r:List Value},LRel ρ (ns.map (Value.int k)) r→r=ns.map (Value.int k)
 | [],r,h=>by cases h;rfl
 | n::ns,r,h=>by
  cases h with
  | cons h1 h2=>rw[h1.int_inv,LRel.ints h2];rfl
theorem r_cb2s {s d el:TypeId} {x:Operand} (hr:HRel P base ρ h w) (ho:o.op=.convert s d x) (h1:P.underlying s=some (.slice el)) (h2:P.underlying d=some .string) (h3:isU8 P el=true) (hx:VRel ρ (t.eval x) (e x)) (hh:zh t h (.cb2s x)=some v):Val P ρ e o w v:=by
 have h3':P.underlying el=some (.int .u8):=by
  unfold isU8 at h3
  split at h3
  ·assumption
  ·cases h3
 have hconv:∀a n c,(convert s d (.slice a n c)).run P w=(Conv.bytesToString (.slice a n c)).run P w:=fun a n c=>run_convert_bytes_string w s d el a n c h1 h3' h2
 have key:∀ (a':Addr) (n c:Nat) (ns:List Int),(loadCells a' n).run P w=.ok (ns.map (Value.int .u8)).toArray w →
   (convert s d (.slice (some a') n c)).run P w=.ok (.string (zY (ns.map fun n=>UInt8.ofNat n.toNat))) w:=fun a' n c ns hl=>by
  rw[hconv,run_bytesToString w a' n c ns hl,foldl_push_bytes]
  simp[zY,ByteArray.empty,ByteArray.emptyWithCapacity];rfl
 simp only[zh] at hh
 split at hh
 ·rename_i n c hs
  rw[hs] at hx
  cases hh
  obtain⟨rfl,rfl,hv⟩:=hx.nilslice_inv
  refine zd (x:=.string (zY [])) ?_ (.string _)
  simp only[execOp,ho,hv,Sem.run_bind,hconv]
  simp[Conv.bytesToString,zY,ByteArray.empty,ByteArray.emptyWithCapacity];rfl
 ·rename_i a n c hs
  rw[hs] at hx
  obtain⟨l,a',c',hl,hv,hle,hcc,haddr,_⟩:=hx.slice_inv
  split at hh
  ·rename_i h0
   cases hh
   subst h0
   refine zd (x:=.string (zY [])) ?_ (.string _)
   have:=key a' 0 c' [] rfl
   simp only[execOp,ho,hv,Sem.run_bind,this,Result.andThen_ok]
   rfl
  ·rename_i h0
   split at hh
   ·rename_i vs hvs
    split at hh
    ·rename_i bs hbs
     cases hh
     obtain⟨ns,rfl,rfl⟩:=zGr hbs
     obtain⟨r,q1,q2,q3,_,q4⟩:=hr.loadCells (P:=P) hl hvs
     rw[LRel.ints q1] at q4
     have:=haddr (by omega)
     subst this
     refine zd (x:=.string (zY (ns.map fun n=>UInt8.ofNat n.toNat))) ?_ (.string _)
     simp only[execOp,ho,hv,Sem.run_bind,key _ n c' ns q4,Result.andThen_ok]
     rfl
    ·cases hh
   ·cases hh
 ·cases hh
theorem zBH {r:Nat} {es:Array MapEntry} {clock:Nat} (hb:w.heap[r]?=some (.map es clock)):(getObj r).run P w=.ok (.map es clock) w:=by
 simp[getObj,Sem.run,hb]
theorem zCF {r:Nat} {es:Array MapEntry} {clock:Nat} (o:Obj) (hb:w.heap[r]?=some (.map es clock)):(setObj r o).run P w=.ok () { w with heap:=w.heap.setIfInBounds r o }:=by
 simp[setObj,Sem.run,hb]
theorem zBG {kt:TypeId} {d:TypeDesc} {k:Value} {l:List MapEntry} {a:Option (Nat×Value)} (hd:P.underlying kt=some d) (h:Instr.findNow d k l 0=some a):(Instr.findKey kt k l).run P w=.ok a w:=by
 simp[Instr.findKey,run_underlying hd,h]
theorem zCa {kt:TypeId} {k:EqK} (hk:keyK P kt=some k):(k=.int∧∃q,P.underlying kt=some (.int q))∨(k=.str∧P.underlying kt=some .string)∨(k=.bool∧P.underlying kt=some .bool):=by
 unfold keyK at hk
 split at hk
 ·rename_i q hu;cases hk;exact .inl ⟨rfl,q,hu⟩
 ·rename_i hu;cases hk;exact .inr (.inl ⟨rfl,hu⟩)
 ·rename_i hu;cases hk;exact .inr (.inr ⟨rfl,hu⟩)
 ·cases hk
theorem zFn {kt:TypeId} {k:EqK} {d:TypeDesc} (hk:keyK P kt=some k) (hd:P.underlying kt=some d) {x y x' y':Value} {b:Bool} (hx:VRel ρ x x') (hy:VRel ρ y y') (hb:eqX k x y=some b):Instr.sameNow d x' y'=some b:=by
 rcases zCa hk with ⟨rfl,q,hu⟩|⟨rfl,hu⟩|⟨rfl,hu⟩<;>(rw[hd] at hu;cases hu)
 ·obtain⟨k,m,n,rfl,rfl,rfl⟩:=zE0 hb
  rw[hx.int_inv,hy.int_inv];simp[Instr.sameNow]
 ·obtain⟨m,n,rfl,rfl,rfl⟩:=zE1 hb
  rw[hx.string_inv,hy.string_inv];simp only[Instr.sameNow,zIl]
 ·obtain⟨m,n,rfl,rfl,rfl⟩:=zEz hb
  rw[hx.bool_inv,hy.bool_inv];simp[Instr.sameNow]
theorem zBe {kt:TypeId} {k:EqK} {d:TypeDesc} (hk:keyK P kt=some k) (hd:P.underlying kt=some d) {x x':Value} (hx:VRel ρ x x') {es:List (Value×Value)} {es':List MapEntry} (hr:All2 (ERel ρ) es es'):∀ {i:Nat} {r:Option (Nat×Value)},zA1 k x es i=some r →
  (r=none∧Instr.findNow d x' es' i=some none)∨∃j v v' en',r=some (i+j,v)∧Instr.findNow d x' es' i=some (some (i+j,v'))∧VRel ρ v v'∧es'[j]?=some en'∧eqX k x ((es.map (·.1)).getD j (.tuple #[]))=some true∧j<es.length:=by
 induction hr with
 | nil=>intro i r h;cases h;exact .inl ⟨rfl,rfl⟩
 | @cons en en' es es' he _ ih =>
  intro i r h
  obtain⟨k1,v1⟩:=en
  simp only[zA1] at h
  split at h
  ·rename_i hb
   cases h
   exact .inr ⟨0,v1,en'.val,en',rfl,by simp[Instr.findNow,zFn hk hd hx he.1 hb],he.2,rfl,by simpa using hb,by simp⟩
  ·rename_i hb
   rcases ih h with ⟨h1,h2⟩|⟨j,v,v',e2,h1,h2,h3,h4,h5,h6⟩
   ·exact .inl ⟨h1,by simp[Instr.findNow,zFn hk hd hx he.1 hb,h2]⟩
   ·refine .inr ⟨j+1,v,v',e2,by rw[h1];congr 2;omega,?_,h3,by simpa using h4,by simpa using h5,by simp;omega⟩
    simp[Instr.findNow,zFn hk hd hx he.1 hb,h2];omega
  ·cases h
theorem zDX {kt:TypeId} {k:EqK} (hk:keyK P kt=some k) (em:Bool) (n:Nat) (x:Value):(Instr.checkKey em (n+1) kt x).run P w=.ok () w:=by
 rcases zCa hk with ⟨rfl,q,hu⟩|⟨rfl,hu⟩|⟨rfl,hu⟩<;>(simp only[Instr.checkKey,Sem.run_bind,run_underlying hu,Result.andThen_ok];cases x<;>rfl)
theorem r_lookup {tt kt el:TypeId} {k:EqK} {z:Value} {ok:Bool} {m x:Operand} (hr:HRel P base ρ h w) (ho:o.op=.lookup tt m x ok) (hu:P.underlying tt=some (.map kt el)) (hk:keyK P kt=some k) (hz:zBx P el=some z)
  (hm:VRel ρ (t.eval m) (e m)) (hx:VRel ρ (t.eval x) (e x)) (hh:zh t h (.lookup z ok k m x)=some v):Val P ρ e o w v:=by
 have two:∀ (v:Value) (b:Bool) {v':Value},VRel ρ v v'→VRel ρ (if ok then .tuple #[v,.bool b] else v) (if ok then .tuple #[v',.bool b] else v'):=fun v b v' hv=>by
  cases ok
  ·exact hv
  ·exact VRel.tuple_of (.cons hv (.cons (.bool _) .nil))
 have hzr:VRel ρ z z:=VRel.const (zBy hz).2
 simp only[zh] at hh
 split at hh
 ·rename_i hs
  rw[hs] at hm
  cases hh
  cases hm':e m<;>rw[hm'] at hm<;>cases hm
  refine zd (x:=if ok then .tuple #[z,.bool false] else z) ?_ (two _ _ hzr)
  have hf:(Instr.findKey kt (e x) []).run P w=.ok none w:=by
   rcases zCa hk with ⟨rfl,q,hu⟩|⟨rfl,hu⟩|⟨rfl,hu⟩<;>exact zBG hu rfl
  have hck:(Instr.checkKey true 10000 kt (e x)).run P w=.ok () w:=zDX hk _ _ _
  simp only[execOp,ho,hm',Instr.lookup,Sem.run_bind,run_underlying hu,Result.andThen_ok,Sem.run_pure,List.isEmpty_toArray,List.isEmpty_nil,hck,hf,(zBy hz).1]
 ·rename_i r hs
  rw[hs] at hm
  split at hh
  ·rename_i es st hes
   cases hm':e m<;>rw[hm'] at hm<;>cases hm
   rename_i L hL
   obtain⟨es',cl,hh',_,hrel⟩:=hr.maps r L es st hes hL
   have hg:(getObj L.b).run P w=.ok (.map es' cl) w:=zBH hh'
   have hck:(Instr.checkKey es'.isEmpty 10000 kt (e x)).run P w=.ok () w:=zDX hk _ _ _
   obtain⟨d,hd⟩:∃d,P.underlying kt=some d:=by rcases zCa hk with ⟨_,q,hu⟩|⟨_,hu⟩|⟨_,hu⟩<;>exact⟨_,hu⟩
   split at hh
   ·rename_i i v1 hf
    cases hh
    rcases zBe hk hd hx hrel hf with ⟨h1,_⟩|⟨j,v,v',en',h1,h2,h3,_⟩
    ·cases h1
    ·cases h1
     refine zd (x:=if ok then .tuple #[v',.bool true] else v') ?_ (two _ _ h3)
     have hf':=zBG (P:=P) (w:=w) hd h2
     simp[execOp,ho,hm',Instr.lookup,run_underlying hu,hg,hck,hf']
   ·rename_i hf
    cases hh
    rcases zBe hk hd hx hrel hf with ⟨_,h2⟩|⟨j,v,v',en',h1,_⟩
    ·refine zd (x:=if ok then .tuple #[z,.bool false] else z) ?_ (two _ _ hzr)
     have hf':=zBG (P:=P) (w:=w) hd h2
     simp[execOp,ho,hm',Instr.lookup,run_underlying hu,hg,hck,hf',(zBy hz).1]
    ·cases h1
   ·cases hh
  ·cases hh
 ·cases hh
theorem r_lenM {args:Array Operand} {ats:Array TypeId} {x:Operand} {ty kt el:TypeId} (hr:HRel P base ρ h w) (ho:o.op=.call { callee:=.builtin .len,args:=args,argTypes:=ats }) (ha:args.toList=[x]) (ht:ats[0]?=some ty) (hu:P.underlying ty=some (.map kt el))
  (hx:VRel ρ (t.eval x) (e x)) (hh:zh t h (.lenM x)=some v):Val P ρ e o w v:=by
 obtain⟨cs,hrun⟩:=zA7 (P:=P) (e:=e) w ho
 simp only[zh] at hh
 split at hh
 ·rename_i hs
  rw[hs] at hx
  cases hh
  cases hx':e x<;>rw[hx'] at hx<;>cases hx
  refine zd (x:=.int .i64 0) ?_ (.int _ _)
  rw[hrun,zA3 ha]
  simp[builtin,Builtin.len_,ht,run_underlying hu,hx',goInt]
 ·rename_i r hs
  rw[hs] at hx
  split at hh
  ·rename_i es st hes
   cases hh
   cases hx':e x<;>rw[hx'] at hx<;>cases hx
   rename_i L hL
   obtain⟨es',cl,hh',_,hrel⟩:=hr.maps r L es st hes hL
   have hg:(getObj L.b).run P w=.ok (.map es' cl) w:=zBH hh'
   refine zd (x:=.int .i64 es'.size) ?_ (by rw[hrel.length];simp;exact .int _ _)
   rw[hrun,zA3 ha]
   simp[builtin,Builtin.len_,ht,run_underlying hu,hx',goInt,hg]
  ·cases hh
 ·cases hh
theorem zIE {ro:ROp} (hr:HRel P base ρ h w) (hc:opC P o=.r ro) (he:∀x∈o.op.operands,VRel ρ (t.eval x) (e x)) (hh:zh t h ro=some v):Val P ρ e o w v:=by
 cases ho:o.op<;>rw[ho] at he<;>simp only[opC,ho] at hc
 case load tt a =>
  split at hc
  ·rename_i n h1 h2;cases hc;exact r_loadN hr ho h1 h2 (he a (by simp[Op.operands])) hh
  ·rename_i h1;cases hc;exact r_load1 hr ho h1 (he a (by simp[Op.operands])) hh
  ·cases hc
 case convert s d x =>
  split at hc
  ·cases hc
  ·cases hc
  ·rename_i el h1 h2
   split at hc
   ·rename_i h3;cases hc;exact r_cb2s hr ho h1 h2 h3 (he x (by simp[Op.operands])) hh
   ·cases hc
  ·split at hc<;>cases hc
  ·cases hc
 case lookup tt m x ok =>
  split at hc
  ·rename_i kt el hu
   split at hc
   ·rename_i k z hk hz;cases hc;exact r_lookup hr ho hu hk hz (he m (by simp[Op.operands])) (he x (by simp[Op.operands])) hh
   ·cases hc
  ·cases hc
 case call c =>
  obtain⟨cal,args,ats⟩:=c
  cases cal with
  | value f=>cases hc
  | invoke r n=>cases hc
  | builtin b =>
   have he':∀x∈args.toList,VRel ρ (t.eval x) (e x):=fun x hx=>he x (by simp[Op.operands,Call.operands];simpa using hx)
   simp only[zB3] at hc
   split at hc
   ·rename_i x hal
    have h0:∀ty,ats[0]?.bind P.underlying=some ty→∃u,ats[0]?=some u∧P.underlying u=some ty:=fun ty hty=>by
     cases hq:ats[0]? with
     | none=>rw[hq] at hty;cases hty
     | some u=>rw[hq] at hty;exact⟨u,rfl,hty⟩
    split at hc
    ·cases hc
    ·cases hc
    ·cases hc
    ·rename_i kt el hu
     obtain⟨u,h1,h2⟩:=h0 _ hu
     cases hc;exact r_lenM hr ho hal h1 h2 (he' x (by simp[hal])) hh
    ·cases hc
   all_goals first|(cases hc;done)|((repeat' split at hc)<;>cases hc)
 case binOp op tt x y yt =>
  exfalso
  by_cases h1:op=.eql
  ·subst h1;simp only[binC,eqC] at hc;(repeat' split at hc)<;>cases hc
  ·by_cases h2:op=.neq
   ·subst h2;simp only[binC,eqC] at hc;(repeat' split at hc)<;>cases hc
   ·rw[zC0 ⟨h1,h2⟩] at hc;cases hc
 case makeMap tt r=>cases r<;>cases hc
 all_goals first|(cases hc;done)|((repeat' split at hc)<;>cases hc)
end
end Go.X
end
section
namespace Go.X
open Go.RowKit
def zAC:Obj→Nat
 | .cells cs _ _=>cs.size
 | _=>0
def ObjOK (ρ:Ren):NBlk→Obj→Prop
 | .cells l,obj=>∃cs T fz,obj=.cells cs T fz∧l.length≤cs.size∧LRel ρ l (cs.toList.take l.length)∧∀i,i≤cs.size→¬(fz.1≤i∧i<fz.2)
 | .bytes l,obj=>∃cs T fz,obj=.cells cs T fz∧l.length≤cs.size∧LRel ρ l (cs.toList.take l.length)∧∀i,i<cs.size→¬(fz.1≤i∧i<fz.2)
 | .map,obj=>obj=.map #[] 0
theorem ObjOK.mono {ρ ρ':Ren} (hm:∀A l,ρ A=some l→ρ' A=some l) {b:NBlk} {obj:Obj} (h:ObjOK ρ b obj):ObjOK ρ' b obj:=by
 cases b with
 | cells l=>obtain⟨cs,T,fz,h1,h2,h3,h4⟩:=h;exact⟨cs,T,fz,h1,h2,h3.mono hm,h4⟩
 | bytes l=>obtain⟨cs,T,fz,h1,h2,h3,h4⟩:=h;exact⟨cs,T,fz,h1,h2,h3.mono hm,h4⟩
 | map=>exact h
def upd (ρ:Ren) (id:Nat) (l:Loc):Ren:=fun A=>if A=id then some l else ρ A
theorem z8 {ρ:Ren} {id:Nat} {l:Loc}:upd ρ id l id=some l:=by simp[upd]
theorem zl {ρ:Ren} {id A:Nat} {l:Loc} (h:A≠id):upd ρ id l A=ρ A:=by simp[upd,h]
theorem zDb {ρ:Ren} {id:Nat} {l:Loc} (h:∃N,∀A,N≤A→ρ A=none):∃N,∀A,N≤A→upd ρ id l A=none:=by
 obtain⟨N,hN⟩:=h
 refine⟨max N (id+1),fun A hA=>?_⟩
 rw[zl (by omega)]
 exact hN A (by omega)
theorem zBU {ρ:Ren} {id:Nat} {l:Loc} (h:ρ id=none):∀A m,ρ A=some m→upd ρ id l A=some m:=fun A m hA=>by
 rw[zl];exact hA
 intro e;subst e;rw[h] at hA;cases hA
section
variable {P:Program} {ρ:Ren} {t:Fr} {e:Operand→Value} {o:Oper} {w:World} {v:Value} {base:Nat} {h:Heap}
def Pushed (P:Program) (ρ:Ren) (e:Operand→Value) (o:Oper) (w:World) (b:NBlk) (mk:Mk):Prop :=
 ∃obj v' w',(execOp e o).run P w=.ok (.value v') w'∧w'.heap=w.heap.push obj∧w'.os=w.os∧w'.tape=w.tape∧w'.output=w.output∧ObjOK ρ b obj ∧
  ∀ (ρ':Ren) (id:Nat),ρ' id=some ⟨w.heap.size,0,zAC obj⟩→VRel ρ' (mk.val id) v'
theorem zD6 {l:List Value} {cs:Array Value} {T:TypeId} (hl:LRel ρ l cs.toList):ObjOK ρ (.cells l) (.cells cs T) :=
 ⟨cs,T,(0,0),rfl,by rw[hl.length];simp,by rw[hl.length,List.take_length];exact hl,fun i _ h=>by omega⟩
theorem a_alloc {el:TypeId} {z:List Value} (ho:o.op=.alloc el) (hz:z9 P el=some z):Pushed P ρ e o w (.cells z) .ptr:=by
 obtain⟨zv,h1,h2,h3⟩:=zCu hz
 refine⟨.cells zv.cells el,.pointer (some ⟨w.heap.size,0,none⟩),{ w with heap:=w.heap.push (.cells zv.cells el) },?_,rfl,rfl,rfl,rfl,zD6 (by rw[h2];exact LRel.consts h3),fun ρ' id hid=>?_⟩
 ·simp[execOp,ho,Instr.alloc,h1,newVar,newRow]
 ·exact VRel.ptr (off:=0) hid
theorem a_box {el:TypeId} {x:Operand} (ho:o.op=.box el x) (hx:VRel ρ (t.eval x) (e x)):Pushed P ρ e o w (.cells (zi (t.eval x))) .ptr:=by
 refine⟨.cells (e x).cells el,.pointer (some ⟨w.heap.size,0,none⟩),{ w with heap:=w.heap.push (.cells (e x).cells el) },?_,rfl,rfl,rfl,rfl,zD6 (by rw[←zB4];exact hx.cells),fun ρ' id hid=>?_⟩
 ·simp[execOp,ho,Instr.box,newVar,newRow]
 ·exact VRel.ptr (off:=0) hid
theorem a_map {tt:TypeId} (ho:o.op=.makeMap tt none):Pushed P ρ e o w .map .map:=by
 refine⟨.map #[] 0,.map (some w.heap.size),{ w with heap:=w.heap.push (.map #[] 0) },?_,rfl,rfl,rfl,rfl,rfl,fun ρ' id hid=>VRel.map hid⟩
 simp[execOp,ho,Instr.makeMap]
theorem zHJ {ρ':Ren} {id n c:Nat} {l:Loc} (hid:ρ' id=some l) (h0:l.o=0) (hn:n≤c):VRel ρ' (.slice (some ⟨id,0,none⟩) n c) (.slice (some ⟨l.b,0,none⟩) n c) :=
 .slice hid hn (Nat.le_refl _) (fun _=>by rw[h0]) (fun _=>rfl) (fun q hq=>by cases hq)
theorem a_bslice {tt el:TypeId} {len n:Nat} {ps:Array (Nat×Operand)} {z cs:List Value} (ho:o.op=.buildSlice tt len ps) (hu:P.underlying tt=some (.slice el)) (hz:z9 P el=some z) (hn:zZ P el=some n) (hb:z.length=n∧n≠0∧len*n≤16777216)
  (hx:∀y∈ps.toList.map (·.2),VRel ρ (t.eval y) (e y)) (hf:fill t ((Array.range (len*n)).map (z.toArray[· % n]!)).toList (ps.toList.map fun q=>(q.1*n,n,q.2))=some cs) :
  Pushed P ρ e o w (.cells cs) (.slice len len none):=by
 obtain⟨zv,h1,h2,h3⟩:=zCu hz
 obtain⟨hb1,hb2,hb3⟩:=hb
 have hzs:zv.cells=z.toArray:=by apply Array.ext';simpa using h2
 have hsz:zv.cells.size=n:=by rw[hzs];simpa using hb1
 have hparts:∀ (qs:List (Nat×Operand)),zB0 (fun i=>some (i*n,n)) qs (qs.map fun q=>(q.1*n,n,q.2)):=by
  intro qs
  induction qs with
  | nil=>exact .nil
  | cons q qs ih=>exact .cons rfl ih
 have hcells:LRel ρ ((Array.range (len*n)).map (z.toArray[· % n]!)).toList ((Array.range (len*n)).map (z.toArray[· % n]!)).toList:=by
  refine LRel.consts (List.all_eq_true.2 fun x hx=>?_)
  simp only[Array.toList_map,List.mem_map] at hx
  obtain⟨i,_,rfl⟩:=hx
  have hlt:i % n<z.toArray.size:=by
   have:i % n<n:=Nat.mod_lt _ (by omega)
   simpa [hb1] using this
  rw[getElem!_pos z.toArray (i % n) hlt]
  exact List.all_eq_true.1 h3 _ (by simp)
 obtain⟨r',q1,q2⟩:=zFl (hparts ps.toList) (cells':=(Array.range (len*n)).map (z.toArray[· % n]!)) (e:=e) hcells hx hf
 refine⟨.cells r' el,.slice (some ⟨w.heap.size,0,none⟩) len len,{ w with heap:=w.heap.push (.cells r' el) },?_,rfl,rfl,rfl,rfl,zD6 q2,fun ρ' id hid=>zHJ hid rfl (Nat.le_refl _)⟩
 have q1':Instr.fill (fun i=>some (i*n,n)) ((Array.range (len*n)).map (z.toArray[· % n]!)) (ps.map fun x=>(x.1,e x.2)).toList=some r':=by
  rw[Array.toList_map];exact q1
 simp only[execOp,ho,Instr.buildSlice,Sem.run_bind,run_underlying hu,Result.andThen_ok,zAJ hn]
 rw[if_neg (by omega)]
 by_cases h0:len*n=0
 ·rw[if_pos h0]
  have hr0:(Array.range (len*n))=#[]:=by rw[h0];rfl
  rw[hr0] at q1' ⊢
  have q1'':Instr.fill (fun i=>some (i*n,n)) #[] (List.map (fun x=>(x.1,e x.2)) ps.toList)=some r':=by simpa using q1'
  simp[q1'',newRow]
 ·rw[if_neg h0]
  simp only[Sem.run_bind,h1,Result.andThen_ok,Sem.run_pure,hsz]
  rw[hzs,q1']
  simp[newRow]
theorem zNt {α:Type} (a:Array α) (x:α) (f:α→α):(a.push x).modify a.size f=a.push (f x):=by
 apply Array.ext_getElem?
 intro i
 rw[Array.getElem?_modify]
 by_cases h:a.size=i
 ·subst h;simp
 ·rw[if_neg h]
  rcases Nat.lt_or_ge i a.size with h'|h'
  ·rw[Array.getElem?_push_lt h',Array.getElem?_push_lt h']
  ·rw[Array.getElem?_eq_none (by simp;omega),Array.getElem?_eq_none (by simp;omega)]
theorem zEk (l:List UInt8):LRel ρ (zV l) (zV l):=All2.map_same l fun _ _=>.int _ _
theorem a_cs2b {s d el:TypeId} {x:Operand} {bs:ByteArray} (ho:o.op=.convert s d x) (h1:P.underlying s=some .string) (h2:P.underlying d=some (.slice el)) (h3:isU8 P el=true) (hx:VRel ρ (t.eval x) (e x)) (hs:t.eval x=.string bs) :
  Pushed P ρ e o w (.bytes (zV bs.data.toList)) (.slice bs.data.toList.length bs.data.toList.length (some 1)):=by
 have h3':P.underlying el=some (.int .u8):=by
  unfold isU8 at h3
  split at h3
  ·assumption
  ·cases h3
 rw[hs] at hx
 have hx':=hx.string_inv
 let cap:=(Question.appendCap bs.size 0 el).cut (w.tape w.drawn (.appendCap bs.size 0 el))
 have hcap:bs.size≤cap:=by simp only[cap,Question.cut];omega
 let cs:Array Value:=bs.data.map (fun b=>Value.int .u8 b.toNat)++Array.replicate (cap - bs.size) (.int .u8 0)
 have hcs:cs.size=cap:=by
  have:bs.data.size=bs.size:=rfl
  simp[cs,this];omega
 refine⟨.cells cs el (cs.size,cs.size+1),.slice (some ⟨w.heap.size,0,none⟩) bs.size cap,{ w with heap:=w.heap.push (.cells cs el (cs.size,cs.size+1)),drawn:=w.drawn+1 },?_,rfl,rfl,rfl,rfl,?_,?_⟩
 ·simp only[execOp,ho,Sem.run_bind,convert,hx',run_underlying h1,run_underlying h2,run_underlying h3',Result.andThen_ok,Conv.stringToBytes,run_choose]
  rw[if_neg (by simp[Question.forced])]
  simp only[Result.andThen_ok,newRow,Sem.run_bind,run_newObj,Sem.run_pure,markStringish,run_shape]
  have hsh:({ w with heap:=w.heap.push (.cells cs el),drawn:=w.drawn+1 }:World).shape? w.heap.size=some (el,cs.size):=by
   simp[World.shape?]
  have hfz:({ w with heap:=w.heap.push (.cells cs el),drawn:=w.drawn+1 }:World).freeze { block:=w.heap.size,off:=cs.size } 1={ w with heap:=w.heap.push (.cells cs el (cs.size,cs.size+1)),drawn:=w.drawn+1 }:=by
   simp only[World.freeze]
   rw[if_neg (by omega),zNt]
   rfl
  have e2:(Question.appendCap bs.size 0 el).cut (w.tape w.drawn (Question.appendCap bs.size 0 el))=cap:=rfl
  have e1:Array.map (fun b=>Value.int IntKind.u8 b.toNat) bs.data++Array.replicate (cap - bs.size) (Value.int IntKind.u8 0)=cs:=rfl
  rw[e2,e1,hsh]
  simp only[run_freeze,hfz,Result.andThen_ok]
 ·refine⟨cs,el,_,rfl,?_,?_,fun i hi hh=>by simp at hh;omega⟩
  ·rw[hcs];simp only[zV,List.length_map];exact hcap
  ·have:cs.toList.take (zV bs.data.toList).length=zV bs.data.toList:=by
    simp[cs,zV]
   rw[this];exact zEk _
 ·intro ρ' id hid
  refine .slice hid (Nat.le_refl _) hcap (fun _=>rfl) (fun hq=>by cases hq) (fun q hq=>?_)
  cases hq
  simp only[zAC,hcs];omega
theorem zIC (z:List Value):∀n:Nat,((Array.range (n*z.length)).map (z.toArray[· % z.length]!)).toList=(List.replicate n z).flatten:=by
 intro n
 induction n with
 | zero=>simp
 | succ n ih =>
  simp only[Array.toList_map,Array.toList_range] at ih ⊢
  rw[Nat.succ_mul,List.range_add,List.map_append,ih,List.replicate_succ',List.flatten_append]
  congr 1
  simp only[List.map_map,List.flatten_cons,List.flatten_nil,List.append_nil]
  apply List.ext_getElem
  ·simp
  ·intro i h1 h2
   simp only[List.length_map,List.length_range] at h1
   simp only[List.getElem_map,List.getElem_range,Function.comp]
   have e1:(n*z.length+i) % z.length=i:=by
    rw[Nat.add_comm,Nat.add_mul_mod_self_right,Nat.mod_eq_of_lt h1]
   rw[e1,getElem!_pos z.toArray i (by simpa using h1)]
   simp
theorem zMV {tt el:TypeId} {b n:Nat} {x y:Operand} {z:List Value} {k k':IntKind} {l c:Int} (ho:o.op=.makeSlice tt x y) (hu:P.underlying tt=some (.slice el)) (hz:z9 P el=some z) (hby:zBD P el=some b) (hn:zZ P el=some n) (hzn:z.length=n∧n≠0)
  (hx:VRel ρ (t.eval x) (e x)) (hy:VRel ρ (t.eval y) (e y)) (h1:t.eval x=.int k l) (h2:t.eval y=.int k' c) (hb:0≤l∧l≤c∧c.toNat*b≤zj∧c<140737488355328) :
  Pushed P ρ e o w (.cells (List.replicate c.toNat z).flatten) (.slice l.toNat c.toNat none):=by
 obtain⟨zv,q1,q2,q3⟩:=zCu hz
 obtain⟨hz1,hz2⟩:=hzn
 obtain⟨hb1,hb2,hb3,hb4⟩:=hb
 rw[h1] at hx;rw[h2] at hy
 have hzs:zv.cells=z.toArray:=by apply Array.ext';simpa using q2
 have hsz:zv.cells.size=n:=by rw[hzs];simpa using hz1
 obtain⟨i,hi,hib⟩:∃i,P.info? el=some i∧i.bytes=b:=by
  unfold zBD at hby
  split at hby
  ·rename_i i hi;exact⟨i,hi,Option.some.inj hby⟩
  ·cases hby
 have his:i.size=n:=by
  have:zZ P el=some i.size:=by simp[zZ,hi]
  rw[hn] at this;exact (Option.some.inj this).symm
 have hwl:IntKind.i64.wrap l=l:=IntWalk.i64_in l (by omega)
 have hwc:IntKind.i64.wrap c=c:=IntWalk.i64_in c (by omega)
 have hcells:((Array.range (c.toNat*n)).map (z.toArray[· % n]!)).toList=(List.replicate c.toNat z).flatten:=by
  have:=zIC z c.toNat
  rwa [hz1] at this
 refine⟨.cells ((Array.range (c.toNat*n)).map (z.toArray[· % n]!)) el,.slice (some ⟨w.heap.size,0,none⟩) l.toNat c.toNat,{ w with heap:=w.heap.push (.cells ((Array.range (c.toNat*n)).map (z.toArray[· % n]!)) el) },?_,rfl,rfl,rfl,rfl,
  zD6 (by rw[hcells];exact LRel.consts (List.all_eq_true.2 fun x hx=>by
   simp only[List.mem_flatten,List.mem_replicate] at hx
   obtain⟨_,⟨_,rfl⟩,hx⟩:=hx
   exact List.all_eq_true.1 q3 x hx)),fun ρ' id hid=>zHJ hid rfl (by omega)⟩
 have hbc:(b:Int)*c≤281474976710656:=by
  have h5:((c.toNat*b:Nat):Int)≤140737488355328:=by unfold zj at hb3;omega
  rw[Int.natCast_mul,Int.toNat_of_nonneg (by omega),Int.mul_comm] at h5
  omega
 simp only[execOp,ho,hx.int_inv,hy.int_inv,Instr.makeSlice,Sem.run_bind,run_underlying hu,Result.andThen_ok,asInt,asIntOf,Sem.run_pure,typeInfo,run_program,hi,hib,hwl,hwc]
 rw[if_neg (by simp;omega)]
 simp only[Sem.run_bind,run_askRoom,Result.andThen_ok,sizeOf,typeInfo,run_program,hi,Sem.run_pure,his]
 by_cases h0:c.toNat*n=0
 ·rw[if_pos h0]
  have hr0:(Array.range (c.toNat*n))=#[]:=by rw[h0];rfl
  rw[hr0]
  simp[newRow]
 ·rw[if_neg h0]
  simp[q1,hzs,newRow,hz1]
theorem zGd {ao:AOp} {b:NBlk} {mk:Mk} (hc:opC P o=.a ao) (he:∀x∈o.op.operands,VRel ρ (t.eval x) (e x)) (hx:zAA t ao=some (b,mk)):Pushed P ρ e o w b mk:=by
 cases ho:o.op<;>rw[ho] at he<;>simp only[opC,ho] at hc
 case alloc el =>
  split at hc
  ·rename_i z hz;cases hc;cases hx;exact a_alloc ho hz
  ·cases hc
 case box el x=>cases hc;cases hx;exact a_box ho (he x (by simp[Op.operands]))
 case buildSlice tt len ps =>
  split at hc
  ·rename_i el hu
   split at hc
   ·rename_i z n hz hn
    split at hc
    ·rename_i hb
     cases hc
     simp only[zAA] at hx
     split at hx
     ·rename_i cs hcs;cases hx;exact a_bslice ho hu hz hn hb (fun y hy=>he y (by simpa [Op.operands] using hy)) hcs
     ·cases hx
    ·cases hc
   ·cases hc
  ·cases hc
 case convert s d x =>
  split at hc
  ·cases hc
  ·cases hc
  ·split at hc<;>cases hc
  ·rename_i el h1 h2
   split at hc
   ·rename_i h3
    cases hc
    simp only[zAA] at hx
    split at hx
    ·rename_i bs hs;cases hx;exact a_cs2b ho h1 h2 h3 (he x (by simp[Op.operands])) hs
    ·cases hx
   ·cases hc
  ·cases hc
 case makeMap tt r =>
  cases r with
  | none=>cases hc;cases hx;exact a_map ho
  | some r=>cases hc
 case makeSlice tt x y =>
  split at hc
  ·rename_i el hu
   split at hc
   ·rename_i z b' n hz hby hn
    split at hc
    ·rename_i hzn
     cases hc
     simp only[zAA] at hx
     split at hx
     ·rename_i k l k' c h1 h2
      split at hx
      ·rename_i hb;cases hx;exact zMV ho hu hz hby hn hzn (he x (by simp[Op.operands])) (he y (by simp[Op.operands])) h1 h2 hb
      ·cases hx
     ·cases hx
    ·cases hc
   ·cases hc
  ·cases hc
 case binOp op tt x y yt =>
  exfalso
  by_cases h1:op=.eql
  ·subst h1;simp only[binC,eqC] at hc;(repeat' split at hc)<;>cases hc
  ·by_cases h2:op=.neq
   ·subst h2;simp only[binC,eqC] at hc;(repeat' split at hc)<;>cases hc
   ·rw[zC0 ⟨h1,h2⟩] at hc;cases hc
 case call c =>
  exfalso
  obtain⟨cal,args,ats⟩:=c
  cases cal with
  | value f=>cases hc
  | invoke r n=>cases hc
  | builtin b =>
   simp only[zB3] at hc
   split at hc<;>first|(cases hc;done)|((repeat' split at hc)<;>cases hc)
 all_goals first|(cases hc;done)|((repeat' split at hc)<;>cases hc)
end
end Go.X
end

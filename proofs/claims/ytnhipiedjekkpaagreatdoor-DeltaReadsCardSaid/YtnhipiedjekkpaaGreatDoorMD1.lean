/- What the code of this statement does, over values that stand for data: an executor of the model's code, that it is sound, and contracts of functions: part 1. No condition is added to the statement. -/
import Derived.Laws.IdiomCopy
import Derived.Laws.AppendOwn
import Derived.ArgAppend
import Derived.Below
import Derived.Orders
import Derived.Laws.Rows
import Derived.Laws.Tables
import Derived.Lib.FrozenHead
import Derived.Laws.Small
import Derived.Laws.StructEq
import Derived.Laws.Slices
import Derived.Lib.SliceRun
import Derived.Great.BuildSlice
import Derived.Laws.BytesString
import Derived.Laws.MakeOwn
import Derived.Laws.AppendOwnNone
set_option linter.unusedVariables false
set_option linter.unusedSimpArgs false
section
namespace Go.Proofs.YtnhipiedjekkpaaGreatDoor.AX
open Go

structure Turn (w w' : World) (g : Nat) (e : TypeId) (cur : Array Value) : Prop where
  at_ : w'.heap[g]? = some (.cells cur e (0, 0))
  os : w'.os = w.os
  tape : w'.tape = w.tape
  output : w'.output = w.output
  size : w.heap.size ≤ w'.heap.size
  block : ∀ k, k < w.heap.size → k ≠ g → w'.heap[k]? = w.heap[k]?
end Go.Proofs.YtnhipiedjekkpaaGreatDoor.AX
end
section
namespace Go.Proofs.YtnhipiedjekkpaaGreatDoor.AX
open Go

structure At where
  name : ByteArray
  value : ByteArray
structure Nd where
  kind : Int
  space : Int
  name : ByteArray
  attrs : List At
  text : ByteArray
  kids : List Nd
structure Ed where
  what : Int
  way : List Int
  old : Nd
  new : Nd
structure Pr where
  a : Int
  b : Int
  whole : Bool
structure Tw where
  a : Int
  b : Int
structure Kf where
  a : Nat
  b : Nat
  c : Nat
structure Rv where
  id : Int
  page : ByteArray
  kind : Int
  parents : List Int
structure En where
  rev : Rv
  whole : Bool
  body : ByteArray
instance : Inhabited At := ⟨⟨⟨#[]⟩, ⟨#[]⟩⟩⟩
instance : Inhabited Nd := ⟨⟨0, 0, ⟨#[]⟩, [], ⟨#[]⟩, []⟩⟩
instance : Inhabited Ed := ⟨⟨0, [], default, default⟩⟩
instance : Inhabited Pr := ⟨⟨0, 0, false⟩⟩
instance : Inhabited Tw := ⟨⟨0, 0⟩⟩
instance : Inhabited Kf := ⟨⟨0, 0, 0⟩⟩
instance : Inhabited Rv := ⟨⟨0, ⟨#[]⟩, 0, []⟩⟩
instance : Inhabited En := ⟨⟨default, false, ⟨#[]⟩⟩⟩

inductive Ty where
  | int | u8 | str | attr | node | edit | redit | one | pair | rpair | ints | rest | nodes | page | rev | rrev | entry | rentry | edits | bld | two | fns
abbrev den : Ty → Type
  | .int => Int
  | .u8 => Int
  | .str => ByteArray
  | .attr => At
  | .node => Nd
  | .edit | .redit | .one => Ed
  | .pair | .rpair => Pr
  | .ints | .rest => List Int
  | .nodes | .page => List Nd
  | .edits => List Ed
  | .rev | .rrev => Rv
  | .entry | .rentry => En
  | .bld => Unit
  | .two => Tw
  | .fns => Kf
def dflt : (t : Ty) → den t
  | .int => (0 : Int)
  | .u8 => (0 : Int)
  | .str => (⟨#[]⟩ : ByteArray)
  | .attr => (default : At)
  | .node => (default : Nd)
  | .edit | .redit | .one => (default : Ed)
  | .pair | .rpair => (default : Pr)
  | .ints | .rest => ([] : List Int)
  | .nodes | .page => ([] : List Nd)
  | .edits => ([] : List Ed)
  | .rev | .rrev => (default : Rv)
  | .entry | .rentry => (default : En)
  | .bld => ()
  | .two => (default : Tw)
  | .fns => (default : Kf)
def rd (t : Ty) (xs : List (den t)) (i : Int) : den t := xs.getD i.toNat (dflt t)

inductive AV where
  | lit (b : Bool)
  | bool (b : Bool)
  | int (k : IntKind) (n : Int)
  | str (s : ByteArray)
  | nil
  | row (t : Ty) (xs : List (den t))
  | own (id ver : Nat)
  | ptr (id off : Nat)
  | nilptr
  | pin (t : Ty) (xs : List (den t)) (i : Int) (off : Nat)
  | optr (id ver : Nat) (i : Int) (off : Nat)
  | fn (f : Nat) (caps : List AV)
  | agg (fs : List AV)
  | tup (vs : List AV)
  | any
  | zrow

def nodeL (n : Nd) : List AV := [.int .i64 n.kind, .int .i64 n.space, .str n.name, .row .attr n.attrs, .str n.text, .row .node n.kids]
def editL (x : Ed) : List AV := .int .i64 x.what :: .row .int x.way :: (nodeL x.old ++ nodeL x.new)
def pairL (p : Pr) : List AV := [.int .i64 p.a, .int .i64 p.b, .bool p.whole]
def twoL (p : Tw) : List AV := [.int .i64 p.a, .int .i64 p.b]
def fnsL (p : Kf) : List AV := [.fn p.a [], .fn p.b [], .fn p.c []]
def revL (r : Rv) : List AV := [.int .i64 r.id, .str r.page, .int .i64 r.kind, .row .int r.parents]
def entryL (x : En) : List AV := revL x.rev ++ [.bool x.whole, .str x.body]
def leaves : (t : Ty) → den t → List AV
  | .int, n => [.int .i64 n]
  | .u8, n => [.int .u8 n]
  | .str, s => [.str s]
  | .attr, (a : At) => [.str a.name, .str a.value]
  | .node, n => nodeL n
  | .edit, x | .redit, x | .one, x => editL x
  | .pair, p | .rpair, p => pairL p
  | .ints, l | .rest, l => [.row .int l]
  | .nodes, l | .page, l => [.row .node l]
  | .edits, l => [.row .edit l]
  | .rev, r | .rrev, r => revL r
  | .entry, x | .rentry, x => entryL x
  | .bld, _ => [.nilptr, .nil]
  | .two, p => twoL p
  | .fns, p => fnsL p
def width : Ty → Nat
  | .int | .u8 | .str | .ints | .rest | .nodes | .page | .edits => 1
  | .attr | .bld | .two => 2
  | .node => 6
  | .edit | .redit | .one => 14
  | .pair | .rpair | .fns => 3
  | .rev | .rrev => 4
  | .entry | .rentry => 6
theorem leaves_length (t : Ty) (x : den t) : (leaves t x).length = width t := by cases t <;> rfl

def asBoolA : AV → Option Bool
  | .lit b | .bool b => some b
  | _ => none
def asIntA : AV → Option Int
  | .int .i64 n => some n
  | _ => none
def asStrA : AV → Option ByteArray
  | .str s => some s
  | _ => none
def asInts : AV → Option (List Int)
  | .nil => some []
  | .row .int l => some l
  | _ => none
def asAttrs : AV → Option (List At)
  | .nil => some []
  | .row .attr l => some l
  | _ => none
def asNodes : AV → Option (List Nd)
  | .nil => some []
  | .row .node l => some l
  | _ => none
def toNd : List AV → Option Nd
  | [a, b, c, d, e, f] => (asIntA a).bind fun a => (asIntA b).bind fun b => (asStrA c).bind fun c => (asAttrs d).bind fun d => (asStrA e).bind fun e => (asNodes f).bind fun f => some ⟨a, b, c, d, e, f⟩
  | _ => none
def toEd : List AV → Option Ed
  | a :: b :: r => (asIntA a).bind fun a => (asInts b).bind fun b => (toNd (r.take 6)).bind fun o => (toNd (r.drop 6)).bind fun n => some ⟨a, b, o, n⟩
  | _ => none
def toPr : List AV → Option Pr
  | [a, b, c] => (asIntA a).bind fun a => (asIntA b).bind fun b => (asBoolA c).bind fun c => some ⟨a, b, c⟩
  | _ => none
def toRv : List AV → Option Rv
  | [a, b, c, d] => (asIntA a).bind fun a => (asStrA b).bind fun b => (asIntA c).bind fun c => (asInts d).bind fun d => some ⟨a, b, c, d⟩
  | _ => none
def toEn : List AV → Option En
  | [a, b, c, d, e, f] => (toRv [a, b, c, d]).bind fun r => (asBoolA e).bind fun e => (asStrA f).bind fun f => some ⟨r, e, f⟩
  | _ => none
def toTw : List AV → Option Tw
  | [a, b] => (asIntA a).bind fun a => (asIntA b).bind fun b => some ⟨a, b⟩
  | _ => none
def toKf : List AV → Option Kf
  | [.fn a [], .fn b [], .fn c []] => some ⟨a, b, c⟩
  | _ => none
def toInt1 : List AV → Option Int
  | [a] => asIntA a
  | _ => none
def toU8 : List AV → Option Int
  | [.int .u8 n] => some n
  | _ => none
def toStr1 : List AV → Option ByteArray
  | [a] => asStrA a
  | _ => none
def toAt : List AV → Option At
  | [a, b] => (asStrA a).bind fun a => (asStrA b).bind fun b => some ⟨a, b⟩
  | _ => none
def toInts1 : List AV → Option (List Int)
  | [a] => asInts a
  | _ => none
def toNodes1 : List AV → Option (List Nd)
  | [a] => asNodes a
  | _ => none
def asEdits : AV → Option (List Ed)
  | .nil => some []
  | .row .edit l => some l
  | _ => none
def toEdits1 : List AV → Option (List Ed)
  | [a] => asEdits a
  | _ => none
def toEl (t : Ty) (l : List AV) : Option (den t) :=
  match t with
  | .int => toInt1 l
  | .u8 => toU8 l
  | .str => toStr1 l
  | .attr => toAt l
  | .node => toNd l
  | .edit | .redit | .one => toEd l
  | .pair | .rpair => toPr l
  | .ints | .rest => toInts1 l
  | .nodes | .page => toNodes1 l
  | .edits => toEdits1 l
  | .rev | .rrev => toRv l
  | .entry | .rentry => toEn l
  | .bld => none
  | .two => toTw l
  | .fns => toKf l

inductive Blk where
  | box (cells : List AV)
  | rowb (ver : Nat) (t : Ty) (xs : List (den t))
  | bld (s : ByteArray)
  | dead

structure St where
  tm : List AV
  hp : List (Option Blk)

inductive Rd (α : Type) where
  | ret (a : α)
  | ask (id : Nat) (k : Option Blk → Rd α)
  | fail
def Rd.bind {α β : Type} : Rd α → (α → Rd β) → Rd β
  | .ret a, f => f a
  | .ask id k, f => .ask id fun b => (k b).bind f
  | .fail, _ => .fail
def Rd.of {α : Type} : Option α → Rd α
  | some a => .ret a
  | none => .fail
def Rd.run {α : Type} (hp : List (Option Blk)) : Rd α → Option (α × List Nat)
  | .ret a => some (a, [])
  | .ask id k => match (k (hp.getD id none)).run hp with
    | some (a, l) => some (a, id :: l)
    | none => none
  | .fail => none

structure Eff where
  pre : Option Prop := none
  given : Option Prop := none
  dst : AV := .any
  sets : List (Nat × Blk) := []

structure Ans where
  pre : Option Prop := none
  given : Option Prop := none
  res : AV
  hp : List Blk := []
  extra : List Blk := []
  same : List Nat := []

structure Glo where
  g : Nat
  t : Ty
  xs : List (den t)
structure Env where
  id : Ty → TypeId
  glob : List Glo := []
  ints : List Nat := []
instance : CoeFun Env fun _ => Ty → TypeId := ⟨Env.id⟩
structure Cx where
  P : Program
  tyOf : TypeId → Option Ty
  bldT : TypeId → Bool
  growT : TypeId → Option Ty
  tid : Env
  T : Nat → List AV → List Blk → Option Ans
  lend : Nat → Bool
  chk : Bool
  cold : Nat → List Nat := fun _ => []

def maxSl : Nat := 140737488355328

def leafOf : Value → AV
  | .bool b => .lit b
  | .int k n => .int k n
  | .string s => if Nat.ble s.size 1048576 then .str s else .any
  | .slice none 0 0 => .nil
  | .pointer none => .nilptr
  | _ => .any
def oneV : Value → Bool
  | .agg _ | .tuple _ => false
  | _ => true
def allOneV : List Value → Bool
  | [] => true
  | v :: l => match oneV v with
    | true => allOneV l
    | false => false
def avOf : Value → AV
  | .agg cs => match allOneV cs.toList with
    | true => .agg (cs.toList.map leafOf)
    | false => .any
  | v => leafOf v
def cellsA : AV → Option (List AV)
  | .agg fs => some fs
  | .tup _ => none
  | .any => none
  | a => some [a]

def globA : List Glo → Nat → AV
  | [], _ => .any
  | p :: l, g => match Nat.beq p.g g with
    | true => .pin p.t p.xs 0 0
    | false => globA l g
def evalA (gl : List Glo) (s : St) : Operand → AV
  | .tmp t => s.tm.getD t .any
  | .const v => avOf v
  | .func f => .fn f []
  | .global g => globA gl g

def isLeaf : AV → Bool
  | .agg _ | .tup _ | .any => false
  | _ => true
def allLeaf : List AV → Bool
  | [] => true
  | a :: l => isLeaf a && allLeaf l

def still (a : AV) : Rd (AV × List (Nat × Blk)) :=
  match a with
  | .own id n => .ask id fun
    | some (.rowb m t xs) => if Nat.beq m n then .ret (.row t xs, [(id, .dead)]) else .fail
    | _ => .fail
  | a => .ret (a, [])
def stills : List AV → Rd (List AV × List (Nat × Blk))
  | [] => .ret ([], [])
  | a :: l => (still a).bind fun (a, s) => (stills l).bind fun (l, z) => .ret (a :: l, s ++ z)

def isAggT (P : Program) (t : TypeId) : Option Bool :=
  match P.underlying t with
  | some (.struct _) | some (.array _ _) => some true
  | some _ => some false
  | none => none
def sizeT (P : Program) (t : TypeId) : Option Nat := (P.info? t).map (·.size)
def bytesT (P : Program) (t : TypeId) : Option Nat := (P.info? t).map (·.bytes)
def zeroT (P : Program) (t : TypeId) : Option AV := ((P.info? t).bind (·.zero)).map avOf

def partA (P : Program) (t : TypeId) (cs : List AV) (off : Nat) : Option AV :=
  (isAggT P t).bind fun
    | true => (sizeT P t).bind fun n => if Nat.ble (off + n) cs.length then some (.agg ((cs.drop off).take n)) else none
    | false => cs[off]?
def putL (cs new : List AV) (off : Nat) : Option (List AV) :=
  if Nat.ble (off + new.length) cs.length then some (cs.take off ++ new ++ cs.drop (off + new.length)) else none

def fillA (place : Nat → Option (Nat × Nat)) (cells : List AV) : List (Nat × AV) → Option (List AV)
  | [] => some cells
  | (i, v) :: rest => (place i).bind fun (off, size) => (cellsA v).bind fun vs =>
    if Nat.beq vs.length size then (putL cells vs off).bind fun cs => fillA place cs rest else none


def kEq : IntKind → IntKind → Bool
  | .i8, .i8 | .i16, .i16 | .i32, .i32 | .i64, .i64 | .u8, .u8 | .u16, .u16 | .u32, .u32 | .u64, .u64 => true
  | _, _ => false
def tyEq : Ty → Option Ty → Bool
  | .int, some .int | .u8, some .u8 | .str, some .str | .attr, some .attr | .node, some .node | .edit, some .edit | .redit, some .redit | .one, some .one | .pair, some .pair | .rpair, some .rpair | .ints, some .ints | .rest, some .rest | .nodes, some .nodes | .page, some .page | .rev, some .rev | .rrev, some .rrev | .entry, some .entry | .rentry, some .rentry | .edits, some .edits | .bld, some .bld | .two, some .two | .fns, some .fns => true
  | _, _ => false
def eqS (a b : ByteArray) : Bool := a.toList == b.toList

def binA (two bl sl : Bool) (op : BinOp) (x y : AV) : Option (Option Prop × AV) :=
  match x, y with
  | .int k a, .int k' b =>
    match op with
    | .shl => some (some (0 ≤ b), .int k (k.wrap (a * 2 ^ (min b.toNat k.bits))))
    | .shr => some (some (0 ≤ b), .int k (a.fdiv (2 ^ (min b.toNat k.bits))))
    | op => if kEq k k' then
        match op with
        | .add => some (none, .int k (k.wrap (a + b)))
        | .sub => some (none, .int k (k.wrap (a - b)))
        | .mul => some (none, .int k (k.wrap (a * b)))
        | .quo => some (some (b ≠ 0), .int k (k.wrap (a.tdiv b)))
        | .rem => some (some (b ≠ 0), .int k (a.tmod b))
        | .and => some (none, .int k (k.wrap (BitVec.ofInt k.bits a &&& BitVec.ofInt k.bits b).toNat))
        | .or => some (none, .int k (k.wrap (BitVec.ofInt k.bits a ||| BitVec.ofInt k.bits b).toNat))
        | .xor => some (none, .int k (k.wrap (BitVec.ofInt k.bits a ^^^ BitVec.ofInt k.bits b).toNat))
        | .andNot => some (none, .int k (k.wrap (BitVec.ofInt k.bits a &&& ~~~BitVec.ofInt k.bits b).toNat))
        | .eql => some (none, .bool (a == b))
        | .neq => some (none, .bool (a != b))
        | .lss => some (none, .bool (decide (a < b)))
        | .leq => some (none, .bool (decide (a ≤ b)))
        | .gtr => some (none, .bool (decide (a > b)))
        | .geq => some (none, .bool (decide (a ≥ b)))
        | _ => none
      else none
  | .str a, .str b =>
    match op with
    | .add => some (some (a.size + b.size ≤ maxSl), .str (a ++ b))
    | .eql => some (none, .bool (eqS a b))
    | .neq => some (none, .bool (!eqS a b))
    | _ => none
  | .agg [.str a, .str b], .agg [.str c, .str d] =>
    if two then
      match op with
      | .eql => some (none, .bool (eqS a c && eqS b d))
      | .neq => some (none, .bool (!(eqS a c && eqS b d)))
      | _ => none
    else none
  | .row _ (_ :: _), .nil => if sl then (match op with
      | .eql => some (none, .lit false)
      | .neq => some (none, .lit true)
      | _ => none) else none
  | .zrow, .nil => if sl then (match op with
      | .eql => some (none, .lit false)
      | .neq => some (none, .lit true)
      | _ => none) else none
  | .nil, .nil => if sl then (match op with
      | .eql => some (none, .lit true)
      | .neq => some (none, .lit false)
      | _ => none) else none
  | x, y => if !bl then none else (asBoolA x).bind fun a => (asBoolA y).bind fun b =>
    match op with
    | .eql => some (none, .bool (a == b))
    | .neq => some (none, .bool (!(a == b)))
    | _ => none
def unA (op : UnOp) (x : AV) : Option AV :=
  match op, x with
  | .neg, .int k n => some (.int k (k.wrap (0 - n)))
  | .xor, .int k n => some (.int k (k.wrap (BitVec.ofInt k.bits (if k.signed then -1 else k.max) ^^^ BitVec.ofInt k.bits n).toNat))
  | .not, .lit b => some (.lit (!b))
  | .not, .bool b => some (.bool (!b))
  | _, _ => none

instance : DecidableEq Ty := fun a b => by
  cases a <;> cases b <;> first | exact isTrue rfl | exact isFalse (fun h => nomatch h)
def castRow (t : Ty) {u : Ty} (xs : List (den u)) : Option (List (den t)) :=
  match decEq u t with
  | isTrue h => some (h ▸ xs)
  | isFalse _ => none
def elems (t : Ty) : AV → Rd (List (den t))
  | .nil => .ret []
  | .zrow => .ret []
  | .row _ xs => Rd.of (castRow t xs)
  | .own id n => .ask id fun
    | some (.rowb m _ xs) => if Nat.beq m n then Rd.of (castRow t xs) else .fail
    | _ => .fail
  | _ => .fail
def chunks (t : Ty) : Nat → List AV → Option (List (den t))
  | 0, _ => some []
  | n + 1, cs => (toEl t (cs.take (width t))).bind fun x => (chunks t n (cs.drop (width t))).bind fun l => some (x :: l)

def boundA (d : Int) : Option AV → Option Int
  | none => some d
  | some (.int _ n) => some n
  | _ => none

def pos : List Nat → Nat → Option Nat
  | [], _ => none
  | m :: l, id => match Nat.beq m id with
    | true => some 0
    | false => match pos l id with
      | some i => some (i + 1)
      | none => none
def addId (J : List Nat) (id : Nat) : List Nat :=
  match pos J id with
  | some _ => J
  | none => J ++ [id]
def namesL (lend : Bool) (J : List Nat) : AV → List Nat
  | .own id _ => match lend with
    | true => J
    | false => addId J id
  | .ptr id _ => addId J id
  | _ => J
def namesLs (lend : Bool) (J : List Nat) : List AV → List Nat
  | [] => J
  | a :: l => namesLs lend (namesL lend J a) l
def namesV (lend : Bool) (J : List Nat) : AV → List Nat
  | .agg fs => namesLs lend J fs
  | .fn _ caps => namesLs false J caps
  | a => namesL lend J a
def namesVs (lend : Bool) (J : List Nat) : List AV → List Nat
  | [] => J
  | a :: l => namesVs lend (namesV lend J a) l
def reach : Nat → Nat → List Nat → Rd (List Nat)
  | 0, _, _ => .fail
  | k + 1, i, J => match J[i]? with
    | none => .ret J
    | some id => .ask id fun
      | some (.box cells) => reach k (i + 1) (namesLs false J cells)
      | _ => reach k (i + 1) J
def mapL (J : List Nat) (lend : Bool) (a : AV) : Rd AV :=
  match a with
  | .own id n => .ask id fun
    | some (.rowb m t xs) => match Nat.beq m n, lend, pos J id with
      | true, true, none => .ret (.row t xs)
      | true, false, some i => .ret (.own i 0)
      | _, _, _ => .ret .any
    | _ => .ret .any
  | .ptr id off => match pos J id with
    | some i => .ret (.ptr i off)
    | none => .ret .any
  | .lit b => .ret (.bool b)
  | .optr .. => .ret .any
  | .fn f [] => .ret (.fn f [])
  | .fn .. => .ret .any
  | .agg _ => .ret .any
  | .tup _ => .ret .any
  | a => .ret a
def mapLs (J : List Nat) (lend : Bool) : List AV → Rd (List AV)
  | [] => .ret []
  | a :: l => (mapL J lend a).bind fun a => (mapLs J lend l).bind fun l => .ret (a :: l)
def mapV1 (J : List Nat) (lend : Bool) : AV → Rd AV
  | .agg fs => (mapLs J lend fs).bind fun fs => .ret (.agg fs)
  | .fn f caps => (mapLs J false caps).bind fun caps => .ret (.fn f caps)
  | .tup [] => .ret (.tup [])
  | .tup _ => .ret .any
  | a => mapL J lend a
def mapVs (J : List Nat) (lend : Bool) : List AV → Rd (List AV)
  | [] => .ret []
  | a :: l => (mapV1 J lend a).bind fun a => (mapVs J lend l).bind fun l => .ret (a :: l)
def mapBs (J : List Nat) : List Nat → Rd (List Blk × List Nat)
  | [] => .ret ([], [])
  | id :: l => .ask id fun
    | some (.box cells) => (mapLs J false cells).bind fun cells => (mapBs J l).bind fun (bs, vs) => .ret (.box cells :: bs, 0 :: vs)
    | some (.rowb n t xs) => (mapBs J l).bind fun (bs, vs) => .ret (.rowb 0 t xs :: bs, (n + 1) :: vs)
    | some (.bld s) => (mapBs J l).bind fun (bs, vs) => .ret (.bld s :: bs, 0 :: vs)
    | _ => .fail
def nodupB : List Nat → Bool
  | [] => true
  | m :: l => match pos l m with
    | none => nodupB l
    | some _ => false
def lentL : AV → List Nat
  | .own id _ => [id]
  | _ => []
def lentV : AV → List Nat
  | .agg fs => fs.flatMap lentL
  | a => lentL a
def renId (J : List Nat) (fr i : Nat) : Nat :=
  match J[i]? with
  | some id => id
  | none => fr + (i - J.length)
def renL (J vers : List Nat) (fr : Nat) : AV → AV
  | .own i n => .own (renId J fr i) (vers.getD i 0 + n)
  | .ptr i off => .ptr (renId J fr i) off
  | .optr .. => .any
  | .fn f [] => .fn f []
  | .fn .. => .any
  | .agg _ => .any
  | .tup _ => .any
  | a => a
def renV1 (J vers : List Nat) (fr : Nat) : AV → AV
  | .agg fs => .agg (fs.map (renL J vers fr))
  | .tup [] => .tup []
  | .tup _ => .any
  | a => renL J vers fr a
def renV (J vers : List Nat) (fr : Nat) : AV → AV
  | .tup vs => .tup (vs.map (renV1 J vers fr))
  | a => renV1 J vers fr a
def renB (J vers : List Nat) (fr i : Nat) : Blk → Blk
  | .box cells => .box (cells.map (renL J vers fr))
  | .rowb n t xs => .rowb (vers.getD i 0 + n) t xs
  | b => b
def renBs (J vers : List Nat) (fr i : Nat) : List Blk → List (Nat × Blk)
  | [] => []
  | b :: l => (renId J fr i, renB J vers fr i b) :: renBs J vers fr (i + 1) l
def flatTy : Ty → Bool
  | .int | .u8 | .str | .attr | .pair | .rpair | .two => true
  | _ => false
def flatLeaf : AV → Bool
  | .row .. | .pin .. => false
  | _ => true
def flatOne : AV → Bool
  | .agg fs => fs.all flatLeaf
  | a => flatLeaf a
def flatAV : AV → Bool
  | .tup vs => vs.all flatOne
  | a => flatOne a
def flatBlk : Blk → Bool
  | .box cells => cells.all flatLeaf
  | .rowb _ t _ => flatTy t
  | .bld _ | .dead => true
def flatAns (ans : Ans) : Bool := flatAV ans.res && ans.hp.all flatBlk && ans.extra.all flatBlk
def hasN : List Nat → Nat → Bool
  | [], _ => false
  | m :: l, n => match Nat.beq m n with
    | true => true
    | false => hasN l n
def sameV (s : List Nat) : Nat → List Nat → List Nat
  | _, [] => []
  | i, v :: l => (match hasN s i with
    | true => v - 1
    | false => v) :: sameV s (i + 1) l
def callA (cx : Cx) (fr f : Nat) (args : List AV) : Rd Eff :=
  (reach 12 0 (namesVs (cx.lend f) [] args)).bind fun J => (mapVs J (cx.lend f) args).bind fun args' => (mapBs J J).bind fun (hp, vers) =>
    if nodupB J then (Rd.of (cx.T f args' hp)).bind fun ans =>
      if Nat.beq ans.hp.length J.length && Nat.ble ans.extra.length 4 then
        .ret { pre := ans.pre, given := ans.given, dst := renV J (sameV ans.same 0 vers) fr ans.res,
               sets := renBs J (sameV ans.same 0 vers) fr 0 (ans.hp ++ ans.extra) ++ (if flatAns ans then [] else ((args.flatMap lentV).filter fun id => (pos J id).isNone).map fun id => (id, .dead)) }
      else .fail
    else .fail

def slT (P : Program) (t : TypeId) : Bool :=
  match P.underlying t with
  | some (.slice _) => true
  | _ => false
def boolT (P : Program) (t : TypeId) : Bool :=
  match P.underlying t with
  | some .bool => true
  | _ => false
def zeros (P : Program) (t : TypeId) : Option (List AV) := (zeroT P t).bind cellsA
def structOf (P : Program) (t : TypeId) : Option (Array Field) :=
  match P.underlying t with
  | some (.struct fs) => some fs
  | _ => none
def sliceOf (P : Program) (t : TypeId) : Option TypeId :=
  match P.underlying t with
  | some (.slice e) => some e
  | _ => none
def arrayOf (P : Program) (t : TypeId) : Option (Nat × TypeId) :=
  match P.underlying t with
  | some (.array n e) => some (n, e)
  | _ => none
def placesA (P : Program) : List Field → Option (List (Nat × Nat))
  | [] => some []
  | f :: l => match P.info? f.type with
    | none => none
    | some i => match placesA P l with
      | none => none
      | some r => some ((f.offset, i.size) :: r)
def offIn (a : AV) (d : Nat) : Rd AV :=
  match a with
  | .ptr id off => .ask id fun
    | some (.box _) => .ret (.ptr id (off + d))
    | _ => .fail
  | .pin t xs i off => .ret (.pin t xs i (off + d))
  | .optr id n i off => .ask id fun
    | some (.rowb m _ _) => if Nat.beq m n then .ret (.optr id n i (off + d)) else .fail
    | _ => .fail
  | _ => .fail

def strOf (l : List Int) : ByteArray := l.foldl (fun r n => r.push (UInt8.ofNat n.toNat)) ByteArray.empty

def sameTy (ts : Array TypeId) : Option TypeId :=
  match ts[0]?, ts[1]? with
  | some t, some u => if Nat.beq t u then some t else none
  | _, _ => none
def builtinA (cx : Cx) (fr : Nat) (b : Builtin) (ts : Array TypeId) (args : List AV) : Rd Eff :=
  match b, args with
  | .len, [x] => match (ts[0]?).bind cx.P.underlying, x with
    | some .string, .str s => .ret { given := some (s.size ≤ maxSl), dst := .int .i64 s.size }
    | some (.slice _), .row _ xs => .ret { given := some (xs.length ≤ maxSl), dst := .int .i64 xs.length }
    | some (.slice _), .own id n => .ask id fun
      | some (.rowb m _ xs) => if Nat.beq m n then .ret { given := some (xs.length ≤ maxSl), dst := .int .i64 xs.length } else .fail
      | _ => .fail
    | some (.slice _), .nil => .ret { dst := .int .i64 0 }
    | _, _ => .fail
  | .append, [s, x] => (Rd.of (sameTy ts)).bind fun t0 => (Rd.of (sliceOf cx.P t0)).bind fun e => (Rd.of (cx.tyOf e)).bind fun t => (Rd.of (bytesT cx.P e)).bind fun by_ =>
    (elems t x).bind fun ys =>
      match s with
      | .nil => .ret { pre := some (ys.length * by_ ≤ maxSl), dst := .own fr 0, sets := [(fr, .rowb 0 t ys)] }
      | .own id n => .ask id fun
        | some (.rowb m _ xs) => if Nat.beq m n then (Rd.of (castRow t xs)).bind fun xs =>
            .ret { pre := some ((xs.length + ys.length) * by_ ≤ maxSl), dst := .own id (n + 1), sets := [(id, .rowb (n + 1) t (xs ++ ys))] } else .fail
        | _ => .fail
      | _ => .fail
  | .min, [.int k x, .int k' y] => if kEq k k' then .ret { dst := .int k (if y < x then y else x) } else .fail
  | .max, [.int k x, .int k' y] => if kEq k k' then .ret { dst := .int k (if y > x then y else x) } else .fail
  | _, _ => .fail

def ownCut (a : AV) (lo hi : Option Operand) : Option (Nat × Nat × Operand) :=
  match a with
  | .own id n => match lo, hi with
    | none, some h => some (id, n, h)
    | _, _ => none
  | _ => none
def effOp (cx : Cx) (o : Oper) (fr : Nat) (ev : Operand → AV) : Rd Eff :=
  match o.op with
  | .move x | .assign x => .ret { dst := ev x }
  | .pick c a b => match ev c with
    | .lit t => .ret { dst := if t then ev a else ev b }
    | .bool t => (Rd.of (asBoolA (ev a))).bind fun a => (Rd.of (asBoolA (ev b))).bind fun b => .ret { dst := .bool (if t then a else b) }
    | _ => .fail
  | .alloc e => if cx.bldT e then .ret { dst := .ptr fr 0, sets := [(fr, .bld ⟨#[]⟩)] }
    else (Rd.of (zeros cx.P e)).bind fun z => match cx.growT e, z with
      | some t, [.nil] => .ret { dst := .ptr fr 0, sets := [(fr + 1, .rowb 0 t []), (fr, .box [.own (fr + 1) 0])] }
      | _, z => .ret { dst := .ptr fr 0, sets := [(fr, .box z)] }
  | .box e x => (Rd.of (cellsA (ev x))).bind fun z => match cx.growT e, z with
    | some t, [.nil] => .ret { dst := .ptr fr 0, sets := [(fr + 1, .rowb 0 t []), (fr, .box [.own (fr + 1) 0])] }
    | _, z => .ret { dst := .ptr fr 0, sets := [(fr, .box z)] }
  | .build t ps => (Rd.of (zeros cx.P t)).bind fun z => match structOf cx.P t with
    | some fs => (Rd.of (placesA cx.P fs.toList)).bind fun pl => (Rd.of (fillA (pl.toArray[·]?) z (ps.toList.map fun p => (p.1, ev p.2)))).bind fun cs => .ret { dst := .agg cs }
    | none => (Rd.of (arrayOf cx.P t)).bind fun (_, e) => (Rd.of (sizeT cx.P e)).bind fun n =>
      (Rd.of (fillA (fun i => some (i * n, n)) z (ps.toList.map fun p => (p.1, ev p.2)))).bind fun cs => .ret { dst := .agg cs }
  | .buildSlice t n ps => (Rd.of (sliceOf cx.P t)).bind fun e => (Rd.of (cx.tyOf e)).bind fun ty => (Rd.of (zeros cx.P e)).bind fun z =>
    if Nat.beq z.length (width ty) && Nat.ble (n * width ty) 16777216 then
      (Rd.of (fillA (fun i => some (i * width ty, width ty)) ((List.range (n * width ty)).map fun j => z.getD (j % width ty) .any) (ps.toList.map fun p => (p.1, ev p.2)))).bind fun cs =>
        (stills cs).bind fun (cs, sets) => (Rd.of (chunks ty n cs)).bind fun xs => .ret { dst := .own fr 0, sets := (fr, .rowb 0 ty xs) :: sets }
    else .fail
  | .load t a => match ev a with
    | .ptr id off => .ask id fun
      | some (.box cells) => (Rd.of (partA cx.P t cells off)).bind fun v => .ret { dst := v }
      | _ => .fail
    | .pin ty xs i off => (Rd.of (partA cx.P t (leaves ty (rd ty xs i)) off)).bind fun v => .ret { dst := v }
    | .optr id n i off => .ask id fun
      | some (.rowb m ty xs) => if Nat.beq m n then (Rd.of (partA cx.P t (leaves ty (rd ty xs i)) off)).bind fun v => .ret { dst := v } else .fail
      | _ => .fail
    | _ => .fail
  | .store t a x => (Rd.of (cellsA (ev x))).bind fun vs => (Rd.of (sizeT cx.P t)).bind fun n => if Nat.beq vs.length n then
      match ev a with
      | .ptr id off => .ask id fun
        | some (.box cells) => (Rd.of (putL cells vs off)).bind fun cs => .ret { sets := [(id, .box cs)] }
        | _ => .fail
      | .optr id n i off => (stills vs).bind fun (vs, sets) => if sets.any (fun p => Nat.beq p.1 id) then .fail else .ask id fun
        | some (.rowb m ty xs) => if Nat.beq m n then (Rd.of (putL (leaves ty (rd ty xs i)) vs off)).bind fun cs => (Rd.of (toEl ty cs)).bind fun y =>
            .ret { sets := sets ++ [(id, .rowb m ty (xs.set i.toNat y))] } else .fail
        | _ => .fail
      | _ => .fail
    else .fail
  | .nilCheck x => match ev x with
    | .ptr id off => .ask id fun
      | some (.box _) => .ret { dst := .ptr id off }
      | some (.bld _) => if Nat.beq off 0 then .ret { dst := .ptr id off } else .fail
      | _ => .fail
    | .pin t xs i off => .ret { dst := .pin t xs i off }
    | .optr id n i off => .ask id fun
      | some (.rowb m _ _) => if Nat.beq m n then .ret { dst := .optr id n i off } else .fail
      | _ => .fail
    | .fn f caps => .ret { dst := .fn f caps }
    | _ => .fail
  | .binOp op t x y _ => (Rd.of (binA (tyEq .attr (cx.tyOf t)) (boolT cx.P t) (slT cx.P t) op (ev x) (ev y))).bind fun (p, v) => .ret { pre := p, dst := v }
  | .unOp op _ x => (Rd.of (unA op (ev x))).bind fun v => .ret { dst := v }
  | .convert s d x => match cx.P.underlying s, cx.P.underlying d, ev x with
    | some (.int _), some (.int k), .int _ n => .ret { dst := .int k (k.wrap n) }
    | some .string, some .string, .str s => .ret { dst := .str s }
    | some (.slice e), some .string, v => match cx.P.underlying e with
      | some (.int .u8) => (elems .u8 v).bind fun l => .ret { pre := some (l.length ≤ maxSl), dst := .str (strOf l) }
      | _ => .fail
    | _, _, _ => .fail
  | .slice t x lo hi mx => if mx.isSome then .fail else match ownCut (ev x) lo hi with
    | some (id, n, h) => .ask id fun
      | some (.rowb m ty xs) => if Nat.beq m n && tyEq ty ((sliceOf cx.P t).bind cx.tyOf) then (Rd.of (boundA 0 (some (ev h)))).bind fun h =>
          .ret { pre := some (0 ≤ h ∧ h ≤ xs.length), dst := .own id (n + 1), sets := [(id, .rowb (n + 1) ty (xs.take h.toNat))] } else .fail
      | _ => .fail
    | none => match ev x with
    | .str s => match cx.P.underlying t with
      | some .string => (Rd.of (boundA 0 (lo.map ev))).bind fun l => (Rd.of (boundA s.size (hi.map ev))).bind fun h =>
        .ret { pre := some (0 ≤ l ∧ l ≤ h ∧ h ≤ s.size), dst := .str (s.extract l.toNat h.toNat) }
      | _ => .fail
    | a => (still a).bind fun (a, sets) => match a with
      | .row ty xs => if tyEq ty ((sliceOf cx.P t).bind cx.tyOf) then (Rd.of (boundA 0 (lo.map ev))).bind fun l => (Rd.of (boundA xs.length (hi.map ev))).bind fun h =>
        .ret { pre := some (0 ≤ l ∧ l ≤ h ∧ h ≤ xs.length), dst := .row ty ((xs.take h.toNat).drop l.toNat), sets := sets } else .fail
      | _ => .fail
  | .fieldAddr s x f => (Rd.of ((structOf cx.P s).bind (·[f]?))).bind fun fd => (Rd.of (sizeT cx.P fd.type)).bind fun n => if Nat.beq n 0 then .fail else
    (offIn (ev x) fd.offset).bind fun v => .ret { dst := v }
  | .field t x f => (Rd.of ((structOf cx.P t).bind (·[f]?))).bind fun fd => match ev x with
    | .agg cs => (Rd.of (partA cx.P fd.type cs fd.offset)).bind fun v => .ret { dst := v }
    | _ => .fail
  | .indexAddr t x i => match ev i with
    | .int _ n => match ev x with
      | .row ty xs => if tyEq ty ((sliceOf cx.P t).bind cx.tyOf) then .ret { pre := some (0 ≤ n ∧ n < xs.length), dst := .pin ty xs n 0 } else .fail
      | .own id m => .ask id fun
        | some (.rowb k ty xs) => if Nat.beq k m && tyEq ty ((sliceOf cx.P t).bind cx.tyOf) then .ret { pre := some (0 ≤ n ∧ n < xs.length), dst := .optr id m n 0 } else .fail
        | _ => .fail
      | .ptr id off => (Rd.of (arrayOf cx.P t)).bind fun (len, e) => (Rd.of (sizeT cx.P e)).bind fun sz =>
        .ask id fun
        | some (.box _) => match n with
          | .ofNat m => if Nat.blt m len then .ret { dst := .ptr id (off + m * sz) } else .fail
          | _ => .fail
        | _ => .fail
      | .pin ty xs (.ofNat 0) 0 => (Rd.of (arrayOf cx.P t)).bind fun (len, e) => if tyEq ty (cx.tyOf e) && Nat.beq len xs.length then .ret { pre := some (0 ≤ n ∧ n < xs.length), dst := .pin ty xs n 0 } else .fail
      | _ => .fail
    | _ => .fail
  | .index t x i => match ev i, ev x with
    | .int _ n, .str s => match cx.P.underlying t with
      | some .string => .ret { pre := some (0 ≤ n ∧ n < s.size), dst := .int .u8 ((s.get! n.toNat).toNat : Int) }
      | _ => .fail
    | _, _ => .fail
  | .extract t i => match ev t with
    | .tup vs => (Rd.of vs[i]?).bind fun v => .ret { dst := v }
    | _ => .fail
  | .makeFunc (.func f) first caps => if first.isEmpty && allLeaf (caps.toList.map ev) then .ret { dst := .fn f (caps.toList.map ev) } else .fail
  | .makeSlice t l c => (Rd.of (sliceOf cx.P t)).bind fun e => (Rd.of (cx.tyOf e)).bind fun ty => (Rd.of (bytesT cx.P e)).bind fun by_ => (Rd.of ((zeros cx.P e).bind (toEl ty))).bind fun z =>
    match l, c, ev l with
    | .tmp l, .tmp c, .int .i64 n => if Nat.beq l c then .ret { pre := some (0 ≤ n ∧ n * by_ ≤ maxSl), dst := .own fr 0, sets := [(fr, .rowb 0 ty (List.replicate n.toNat z))] } else .fail
    | _, _, _ => .fail
  | .call c => match c.callee with
    | .builtin b => builtinA cx fr b c.argTypes (c.args.toList.map ev)
    | .value f => match ev f with
      | .fn g caps => callA cx fr g (c.args.toList.map ev ++ caps)
      | _ => .fail
    | _ => .fail
  | _ => .fail

end Go.Proofs.YtnhipiedjekkpaaGreatDoor.AX
end
section
namespace Go.Proofs.YtnhipiedjekkpaaGreatDoor.AX
open Go

structure Br (b : Bool) (X Y : Prop) : Prop where
  yes : b = true → X
  no : b = false → Y
structure Gv (p K : Prop) : Prop where
  on : p → K
structure Rq (p K : Prop) : Prop where
  it : p
  on : K
def RqO (p : Option Prop) (K : Prop) : Prop :=
  match p with
  | none => K
  | some p => Rq p K

def fcA {R : Sort _} (a : AV) (k : AV → R) : R :=
  match a with
  | .lit b => k (.lit b)
  | .bool b => k (.bool b)
  | .int w n => k (.int w n)
  | .str s => k (.str s)
  | .nil => k .nil
  | .row t xs => k (.row t xs)
  | .own id n => k (.own id n)
  | .ptr id off => k (.ptr id off)
  | .nilptr => k .nilptr
  | .pin t xs i off => k (.pin t xs i off)
  | .optr id n i off => k (.optr id n i off)
  | .fn f caps => k (.fn f caps)
  | .agg fs => k (.agg fs)
  | .tup vs => k (.tup vs)
  | .any => k .any
  | .zrow => k .zrow
def fcL {R : Sort _} (l : List AV) (k : List AV → R) : R :=
  match l with
  | [] => k []
  | a :: l => fcA a fun a => fcL l fun l => k (a :: l)
def fcT {R : Sort _} (l : List AV) (k : List AV → R) : R :=
  match l with
  | [] => k []
  | .agg fs :: l => fcL fs fun fs => fcT l fun l => k (.agg fs :: l)
  | a :: l => fcA a fun a => fcT l fun l => k (a :: l)
def fcV {R : Sort _} (a : AV) (k : AV → R) : R :=
  match a with
  | .agg fs => fcL fs fun fs => k (.agg fs)
  | .tup vs => fcT vs fun vs => k (.tup vs)
  | .fn f caps => fcL caps fun caps => k (.fn f caps)
  | a => fcA a k
def fcB {R : Sort _} (b : Blk) (k : Blk → R) : R :=
  match b with
  | .box cells => fcL cells fun cells => k (.box cells)
  | .rowb v t xs => k (.rowb v t xs)
  | .bld s => k (.bld s)
  | .dead => k .dead
def fcBs {R : Sort _} (l : List Blk) (k : List Blk → R) : R :=
  match l with
  | [] => k []
  | b :: l => fcB b fun b => fcBs l fun l => k (b :: l)
def setC {R : Sort _} {α : Type} (l : List α) (n : Nat) (a : α) (k : List α → R) : R :=
  match l, n with
  | [], _ => k []
  | _ :: l, 0 => k (a :: l)
  | b :: l, n + 1 => setC l n a fun l => k (b :: l)
def setsC {R : Sort _} (hp : List (Option Blk)) (l : List (Nat × Blk)) (k : List (Option Blk) → R) : R :=
  match l with
  | [] => k hp
  | (id, b) :: l => fcB b fun b => setC hp id (some b) fun hp => setsC hp l k
def putC {R : Sort _} (tm : List AV) (d : Option Tmp) (v : AV) (k : List AV → R) : R :=
  match d with
  | some d => fcV v fun v => setC tm d v k
  | none => k tm

def appC {R : Sort _} {α : Type} (l m : List α) (k : List α → R) : R :=
  match l with
  | [] => k m
  | a :: l => appC l m fun l => k (a :: l)
def loud (o : Oper) : Bool :=
  match o.op with
  | .alloc _ | .box .. | .buildSlice .. | .load .. | .store .. | .makeSlice .. | .convert .. | .slice .. | .indexAddr .. | .fieldAddr .. | .nilCheck _ | .call _ => true
  | _ => false
structure OI where
  d : Nat
  l : Nat
  g : Nat
  a : Nat
  ld : Bool
def bit (n : Nat) : Nat := 1 <<< n
def bitO : Option Nat → Nat
  | some n => 1 <<< n
  | none => 0
def bitsL : List Nat → Nat
  | [] => 0
  | n :: l => bit n ||| bitsL l
def bindsB (e : Edge) : Bool :=
  match e.ground with
  | .textOnly _ | .gcOnly _ => false
  | _ => true
def ancOf (acc : List OI) : List Edge → Nat
  | [] => 0
  | e :: l => match bindsB e with
    | true => bit e.on ||| (match acc[e.on]? with
      | some o => o.a
      | none => 0) ||| ancOf acc l
    | false => ancOf acc l
def tmpsIn : List Operand → List Nat
  | [] => []
  | .tmp t :: l => t :: tmpsIn l
  | _ :: l => tmpsIn l
def gSlotOf (ops : List Oper) (o : Oper) : Option Nat :=
  match o.guard with
  | none => none
  | some (j, _) => (ops[j]?).bind (·.dst)
def infoOf (ops : List Oper) (acc : List OI) (o : Oper) : OI := ⟨bitO o.dst, bitsL (tmpsIn o.op.operands.toList), bitO (gSlotOf ops o), ancOf acc o.after.toList, loud o⟩
def infosC {R : Sort _} (ops : List Oper) (l : List Oper) (acc : List OI) (k : List OI → R) : R :=
  match l with
  | [] => k acc
  | o :: l => appC acc [infoOf ops acc o] fun acc => infosC ops l acc k
def loose (i : Nat) (x : OI) (j : Nat) (y : OI) : Bool := !Nat.beq i j && !y.a.testBit i && !x.a.testBit j
def apartB (x y : OI) : Bool := Nat.beq (x.d &&& (y.l ||| y.g ||| y.d)) 0 && Nat.beq (y.d &&& (x.l ||| x.g)) 0 && Nat.beq (x.g &&& y.l) 0 && Nat.beq (y.g &&& x.l) 0
def allFrom (f : Nat → OI → Bool) : Nat → List OI → Bool
  | _, [] => true
  | i, x :: l => match f i x with
    | true => allFrom f (i + 1) l
    | false => false
def apartAll (inf : List OI) : Bool := allFrom (fun i x => match Nat.blt x.a (bit i) with
  | true => allFrom (fun j y => match Nat.ble j i with
    | true => true
    | false => !loose i x j y || apartB x y) 0 inf
  | false => false) 0 inf
def allN (f : Nat → Bool) : List Nat → Bool
  | [] => true
  | n :: l => match f n with
    | true => allN f l
    | false => false
def okEff (inf : List OI) (nx i : Nat) (e : Eff) (asked : List Nat) : Bool :=
  match inf[i]? with
  | none => false
  | some x => match x.ld, asked, e.sets with
    | false, [], [] => true
    | false, _, _ => false
    | true, asked, sets => allN (fun id => match Nat.blt id nx with
        | true => true
        | false => x.a.testBit ((id - nx) / 4)) asked &&
      allN (fun id => match Nat.blt id nx with
        | true => true
        | false => Nat.beq ((id - nx) / 4) i || x.a.testBit ((id - nx) / 4)) (sets.map (·.1))

def beqB : Bool → Bool → Bool
  | true, true | false, false => true
  | _, _ => false
structure Ge where
  p : Option Prop
  a : Nat
  s : Nat
abbrev Gs := List Ge
def fcN {R : Sort _} (n : Nat) (k : Nat → R) : R :=
  match n with
  | 0 => k 0
  | n + 1 => k (n + 1)
def sepB (x y : Ge) : Bool := Nat.beq (x.s &&& (y.a ||| y.s)) 0 && Nat.beq (y.s &&& x.a) 0
def allFrom2 (f : Nat → OI → Ge → Bool) : Nat → List OI → Gs → Bool
  | i, x :: l, e :: g => match f i x e with
    | true => allFrom2 f (i + 1) l g
    | false => false
  | _, _, _ => true
def chkG (inf : List OI) (g : Gs) : Bool := allFrom2 (fun i x e => allFrom2 (fun j y e' => match Nat.ble j i with
  | true => true
  | false => !loose i x j y || sepB e e') 0 inf g) 0 inf g
def chkO (inf : Option (List OI)) (g : Gs) : Bool :=
  match inf with
  | none => true
  | some inf => chkG inf g
def okO (inf : Option (List OI)) (nx i : Nat) (e : Eff) (asked : List Nat) : Bool :=
  match inf with
  | none => allN (fun id => Nat.blt id (nx + 4 * i + 4)) (e.sets.map (·.1))
  | some inf => okEff inf nx i e asked
def doOp (cx : Cx) (inf : Option (List OI)) (nx i : Nat) (o : Oper) (K : St → Gs → Prop) (s : St) (g : Gs) : Prop :=
  match (effOp cx o (nx + 4 * i) (evalA cx.tid.glob s)).run s.hp with
  | some (e, asked) => match okO inf nx i e asked with
    | true => RqO e.pre (putC s.tm o.dst e.dst fun tm => setsC s.hp e.sets fun hp => fcN (bitsL asked) fun na => fcN (bitsL (e.sets.map (·.1))) fun ns => setC g i ⟨e.given, na, ns⟩ fun g => K ⟨tm, hp⟩ g)
    | false => False
  | none => False
def skipOp (o : Oper) (K : St → Gs → Prop) (s : St) (g : Gs) : Prop := putC s.tm o.dst (.tup []) fun tm => K ⟨tm, s.hp⟩ g
def refC (s : St) (d : Nat) (b : Bool) (k : St → Prop) : Prop := setC s.tm d (.lit b) fun tm => k ⟨tm, s.hp⟩
def stepA (cx : Cx) (ops : List Oper) (inf : Option (List OI)) (nx i : Nat) (o : Oper) (K : St → Gs → Prop) (s : St) (g : Gs) : Prop :=
  match o.guard with
  | none => doOp cx inf nx i o K s g
  | some (j, want) => match (ops[j]?).bind (·.dst) with
    | none => False
    | some d => match s.tm.getD d .any with
      | .lit b => match beqB b want with
        | true => doOp cx inf nx i o K s g
        | false => skipOp o K s g
      | .bool b => match want with
        | true => Br b (refC s d true fun s => doOp cx inf nx i o K s g) (refC s d false fun s => skipOp o K s g)
        | false => Br b (refC s d true fun s => skipOp o K s g) (refC s d false fun s => doOp cx inf nx i o K s g)
      | .tup [] => skipOp o K s g
      | _ => False
def runL (cx : Cx) (ops : List Oper) (inf : Option (List OI)) (nx : Nat) (K : St → Gs → Prop) : List Oper → Nat → St → Gs → Prop
  | [], _, s, g => K s g
  | o :: l, i, s, g => stepA cx ops inf nx i o (fun s g => runL cx ops inf nx K l (i + 1) s g) s g

def trim {R : Sort _} (l : List (Option Blk)) (k : List (Option Blk) → R) : R :=
  match l with
  | [] => k []
  | a :: l => trim l fun l' => match l', a with
    | [], none => k []
    | l', a => k (a :: l')
def conjG : Gs → Prop → Prop
  | [], K => K
  | ⟨none, _, _⟩ :: l, K => conjG l K
  | ⟨some p, _, _⟩ :: l, K => Gv p (conjG l K)
def gnones : Nat → Gs
  | 0 => []
  | n + 1 => ⟨none, 0, 0⟩ :: gnones n
def nones {α : Type} : Nat → List (Option α)
  | 0 => []
  | n + 1 => none :: nones n
def infC {R : Sort _} (chk draw : Bool) (ops : List Oper) (no : R) (k : Option (List OI) → R) : R :=
  match draw, chk with
  | true, true => infosC ops ops [] fun inf => match apartAll inf with
    | true => k (some inf)
    | false => no
  | _, _ => k none
def regA (cx : Cx) (ops : List Oper) (draw : Bool) (K : St → Prop) (s : St) : Prop :=
  infC cx.chk draw ops False fun inf => appC s.hp (nones (4 * ops.length)) fun hp =>
    runL cx ops inf s.hp.length (fun s g => match chkO inf g with
      | true => conjG g (trim s.hp fun hp => K ⟨s.tm, hp⟩)
      | false => False) ops 0 ⟨s.tm, hp⟩ (gnones ops.length)

inductive Ex where
  | norm
  | exit (id : Nat)
  | ret

abbrev Loops := Nat → St → (Ex → St → Prop) → Prop
def coldC (l : List Nat) (s : St) (k : St → Prop) : Prop :=
  match l with
  | [] => k s
  | t :: l => match s.tm.getD t .any with
    | .own id n => match s.hp.getD id none with
      | some (.rowb m ty xs) => match Nat.beq m n with
        | true => setC s.tm t (.row ty xs) fun tm => setC s.hp id (some .dead) fun hp => coldC l ⟨tm, hp⟩ k
        | false => False
      | _ => False
    | _ => False
def wpA (cx : Cx) (L : Loops) : Nat → Code → (Ex → St → Prop) → St → Prop
  | _, .skip, K, s => K .norm s
  | _, .region id ops draw, K, s => regA cx ops.toList draw (fun s => coldC (cx.cold id) s (K .norm)) s
  | b, .seq x y, K, s => wpA cx L b x (fun e s => match e with
    | .norm => wpA cx L b y K s
    | e => K e s) s
  | b, .cond c x y, K, s => match c with
    | .tmp t => match s.tm.getD t .any with
      | .lit true => wpA cx L b x K s
      | .lit false => wpA cx L b y K s
      | .bool v => Br v (refC s t true fun s => wpA cx L b x K s) (refC s t false fun s => wpA cx L b y K s)
      | _ => False
    | _ => False
  | _, .block id c, K, s => wpA cx L id c (fun e s => match e with
    | .exit j => match Nat.beq j id with
      | true => K .norm s
      | false => K (.exit j) s
    | e => K e s) s
  | b, .loop _, K, s => L b s K
  | b, .scope c, K, s => wpA cx L b c K s
  | _, .label _, K, s => K .norm s
  | _, .exit id, K, s => K (.exit id) s
  | _, .ret, K, s => K .ret s
  | _, _, _, _ => False

def noTup (a : AV) : Option AV :=
  match a with
  | .tup _ => none
  | a => some a
def cellB (cx : Cx) (t : TypeId) (off : Nat) (b : Option Blk) : Option AV :=
  match b with
  | some (.box cells) => partA cx.P t cells off
  | _ => none
def cellA (cx : Cx) (hp : List (Option Blk)) (t : TypeId) (a : AV) : Option AV :=
  match a with
  | .ptr id off => cellB cx t off (hp.getD id none)
  | _ => none
def resOne (cx : Cx) (s : St) : ResultVar → Option AV
  | .tmp t => noTup (s.tm.getD t .any)
  | .cell a t => (cellA cx s.hp t (s.tm.getD a .any)).bind noTup
def resList (cx : Cx) (s : St) : List ResultVar → Option (List AV)
  | [] => some []
  | r :: l => (resOne cx s r).bind fun v => (resList cx s l).bind fun vs => some (v :: vs)
def resA (cx : Cx) (fn : Func) (s : St) : Option AV :=
  match resList cx s fn.results.toList with
  | some [v] => some v
  | some vs => some (.tup vs)
  | none => none
inductive Want where
  | as
  | row (t : Ty)
  | own (t : Ty)
def wantL {R : Sort _} (w : Want) (hp : List (Option Blk)) (a : AV) (k : AV → List (Option Blk) → R) : R :=
  match a with
  | .nil => match w with
    | .as => k .nil hp
    | .row t => k (.row t []) hp
    | .own t => appC hp [some (.rowb 0 t [])] fun hp' => k (.own hp.length 0) hp'
  | a => k a hp
def wantLs {R : Sort _} (ws : List Want) (hp : List (Option Blk)) (l : List AV) (k : List AV → List Want → List (Option Blk) → R) : R :=
  match l with
  | [] => k [] ws hp
  | a :: l => match ws with
    | [] => wantL .as hp a fun a hp => wantLs [] hp l fun l ws hp => k (a :: l) ws hp
    | w :: ws => wantL w hp a fun a hp => wantLs ws hp l fun l ws hp => k (a :: l) ws hp
def wantV1 {R : Sort _} (ws : List Want) (hp : List (Option Blk)) (a : AV) (k : AV → List Want → List (Option Blk) → R) : R :=
  match a with
  | .agg fs => wantLs ws hp fs fun fs ws hp => k (.agg fs) ws hp
  | a => match ws with
    | [] => k a [] hp
    | w :: ws => wantL w hp a fun a hp => k a ws hp
def wantVs {R : Sort _} (ws : List Want) (hp : List (Option Blk)) (l : List AV) (k : List AV → List Want → List (Option Blk) → R) : R :=
  match l with
  | [] => k [] ws hp
  | a :: l => wantV1 ws hp a fun a ws hp => wantVs ws hp l fun l ws hp => k (a :: l) ws hp
def lendOf : Want → Bool
  | .row _ => true
  | _ => false
def gNamesLs (ws : List Want) (J : List Nat) : List AV → List Nat × List Want
  | [] => (J, ws)
  | a :: l => match ws with
    | [] => gNamesLs [] (namesL false J a) l
    | w :: ws => gNamesLs ws (namesL (lendOf w) J a) l
def gNamesV (ws : List Want) (J : List Nat) : AV → List Nat × List Want
  | .agg fs => gNamesLs ws J fs
  | .fn _ caps => (namesLs false J caps, ws.drop 1)
  | a => match ws with
    | [] => (namesL false J a, [])
    | w :: ws => (namesL (lendOf w) J a, ws)
def gNamesVs (ws : List Want) (J : List Nat) : List AV → List Nat
  | [] => J
  | a :: l => match gNamesV ws J a with
    | (J, ws) => gNamesVs ws J l
def gMapLs (J : List Nat) (ws : List Want) : List AV → Rd (List AV × List Want)
  | [] => .ret ([], ws)
  | a :: l => match ws with
    | [] => (mapL J false a).bind fun a => (gMapLs J [] l).bind fun (l, ws) => .ret (a :: l, ws)
    | w :: ws => (mapL J (lendOf w) a).bind fun a => (gMapLs J ws l).bind fun (l, ws) => .ret (a :: l, ws)
def gMapV1 (J : List Nat) (ws : List Want) : AV → Rd (AV × List Want)
  | .agg fs => (gMapLs J ws fs).bind fun (fs, ws) => .ret (.agg fs, ws)
  | a => match ws with
    | [] => (mapV1 J false a).bind fun a => .ret (a, [])
    | w :: ws => (mapV1 J (lendOf w) a).bind fun a => .ret (a, ws)
def gMapVs (J : List Nat) (ws : List Want) : List AV → Rd (List AV × List Want)
  | [] => .ret ([], ws)
  | a :: l => (gMapV1 J ws a).bind fun (a, ws) => (gMapVs J ws l).bind fun (l, ws) => .ret (a :: l, ws)
def headsB : List Nat → List AV → Bool
  | _, [] => true
  | j :: J, .ptr id 0 :: l => match Nat.beq j id with
    | true => headsB J l
    | false => false
  | j :: J, .own id _ :: l => match Nat.beq j id with
    | true => headsB J l
    | false => false
  | _, _ => false
def gather (hp : List (Option Blk)) (first : List AV) (ws : List Want) (vals : List AV) (k : List AV → List Blk → Prop) : Prop :=
  wantVs ws hp vals fun vals _ hp =>
    match ((reach 40 0 (namesVs false [] first)).bind fun J0 => (reach 40 J0.length (gNamesVs ws J0 vals)).bind fun J => (gMapVs J ws vals).bind fun (vals, _) => (mapBs J J).bind fun (bs, _) =>
      if nodupB J && headsB J first then .ret (vals, bs) else .fail).run hp with
    | some ((vals, bs), _) => fcT vals fun vals => fcBs bs fun bs => k vals bs
    | none => False

def undefsC {R : Sort _} (n : Nat) (k : List AV → R) : R :=
  match n with
  | 0 => k []
  | n + 1 => undefsC n fun l => k (.tup [] :: l)
def initA (fn : Func) (args : List AV) (hp : List Blk) (k : St → Prop) : Prop :=
  undefsC (fn.ntmps - args.length) fun u => fcT args fun args => appC args u fun tm => k ⟨tm, hp.map some⟩
def ptrsOf : List AV → Nat → List Nat
  | [], _ => []
  | .ptr .. :: l, i => i :: ptrsOf l (i + 1)
  | _ :: l, i => ptrsOf l (i + 1)
def compsOf : AV → List AV
  | .tup vs => vs
  | a => [a]
def takeC {R : Sort _} (n : Nat) (l : List Blk) (k : List Blk → List Blk → R) : R :=
  match n, l with
  | 0, l => k [] l
  | _ + 1, [] => k [] []
  | n + 1, b :: l => takeC n l fun x y => k (b :: x) y
inductive Fst where
  | slot (p : Nat)
  | res (r : Nat)
  | cap (p q : Nat)
def capV (q : Nat) : AV → AV
  | .fn _ caps => caps.getD q .any
  | _ => .any
def firstV (s : St) (comps : List AV) : Fst → AV
  | .slot p => s.tm.getD p .any
  | .res r => comps.getD r .any
  | .cap p q => capV q (s.tm.getD p .any)
def curB (hp : List (Option Blk)) : AV → Bool
  | .own id n => match hp.getD id none with
    | some (.rowb m _ _) => Nat.beq m n
    | _ => false
  | _ => false
def sameOK (s : St) (fs : List Fst) : List Nat → Bool
  | [] => true
  | i :: l => match fs[i]? with
    | some (.slot p) => (match curB s.hp (s.tm.getD p .any) with
      | true => sameOK s fs l
      | false => false)
    | _ => false
def ownsB (hp : List (Option Blk)) : List AV → Bool
  | [] => true
  | .own id _ :: l => (match hp.getD id none with
    | some (.rowb ..) => ownsB hp l
    | _ => false)
  | _ :: l => ownsB hp l
def endS (cx : Cx) (fn : Func) (fs : List Fst) (same : List Nat) (n : Nat) (ws : List Want) (Q : List AV → List Blk → List Blk → Prop) (s : St) : Prop :=
  match resA cx fn s with
  | none => False
  | some v => match sameOK s fs same && ownsB s.hp (fs.map (firstV s (compsOf v))) with
    | false => False
    | true => gather s.hp (fs.map (firstV s (compsOf v))) ws (compsOf v) fun vs bs => takeC n bs fun x y => Q vs x y
def funS (cx : Cx) (L : Loops) (fn : Func) (args : List AV) (hp : List Blk) (fs : List Fst) (same : List Nat) (ws : List Want) (Q : List AV → List Blk → List Blk → Prop) : Prop :=
  match fn.body with
  | none => False
  | some c => initA fn args hp fun s => wpA cx L 0 c (fun e s => match e with
    | .exit _ => False
    | _ => endS cx fn fs same hp.length ws Q s) s
def fsOf (args : List AV) : List Fst := (ptrsOf args 0).map .slot
def funA (cx : Cx) (L : Loops) (fn : Func) (args : List AV) (hp : List Blk) (ws : List Want) (Q : List AV → List Blk → List Blk → Prop) : Prop := funS cx L fn args hp (fsOf args) [] ws Q

def normA (n : Nat) (keep : List (Tmp × Want)) (s : St) (K : List AV → List Blk → Prop) : Prop :=
  match Nat.beq s.tm.length n with
  | true => gather s.hp [] (keep.map (·.2)) (keep.map fun p => s.tm.getD p.1 .any) K
  | false => False
def anysC {R : Sort _} (n : Nat) (k : List AV → R) : R :=
  match n with
  | 0 => k []
  | n + 1 => anysC n fun l => k (.any :: l)
def putsC {R : Sort _} (tm : List AV) (ts : List (Tmp × Want)) (vs : List AV) (k : List AV → R) : R :=
  match ts, vs with
  | t :: ts, v :: vs => setC tm t.1 v fun tm => putsC tm ts vs k
  | _, _ => k tm
def mkA (n : Nat) (keep : List (Tmp × Want)) (vs : List AV) (bs : List Blk) (k : St → Prop) : Prop :=
  anysC n fun tm => putsC tm keep vs fun tm => k ⟨tm, bs.map some⟩
def bodyA (cx : Cx) (L : Loops) (n b : Nat) (c : Code) (keep left : List (Tmp × Want)) (K : Ex → List AV → List Blk → Prop) (vs : List AV) (bs : List Blk) : Prop :=
  mkA n keep vs bs fun s => wpA cx L b c (fun e s => match e with
    | .norm => normA n keep s fun vs bs => K .norm vs bs
    | e => normA n left s fun vs bs => K e vs bs) s
def roundsA (cx : Cx) (L : Loops) (n b : Nat) (c : Code) (keep left : List (Tmp × Want)) (K : Ex → List AV → List Blk → Prop) : Nat → List AV → List Blk → Prop
  | 0, _, _ => False
  | m + 1, vs, bs => bodyA cx L n b c keep left (fun e vs bs => match e with
    | .norm => roundsA cx L n b c keep left K m vs bs
    | e => K e vs bs) vs bs
def loopA (n : Nat) (keep left : List (Tmp × Want)) (sum : List AV → List Blk → (Ex → List AV → List Blk → Prop) → Prop) (s : St) (K : Ex → St → Prop) : Prop :=
  normA n keep s fun vs bs => sum vs bs fun e vs bs => mkA n left vs bs (K e)
end Go.Proofs.YtnhipiedjekkpaaGreatDoor.AX
end
section
namespace Go.Proofs.YtnhipiedjekkpaaGreatDoor.AX
open Go Go.RowKit

inductive All2 {α β : Type} (R : α → β → Prop) : List α → List β → Prop where
  | nil : All2 R [] []
  | cons {a b l m} (h : R a b) (t : All2 R l m) : All2 R (a :: l) (b :: m)
section
variable {α β : Type} {R S : α → β → Prop}
theorem All2.length {l : List α} {m : List β} (h : All2 R l m) : l.length = m.length := by
  induction h with
  | nil => rfl
  | cons _ _ ih => simp [ih]
theorem All2.mono {l : List α} {m : List β} (hs : ∀ a b, R a b → S a b) (h : All2 R l m) : All2 S l m := by
  induction h with
  | nil => exact .nil
  | cons h _ ih => exact .cons (hs _ _ h) ih
theorem All2.append {l l' : List α} {m m' : List β} (h : All2 R l m) (h' : All2 R l' m') : All2 R (l ++ l') (m ++ m') := by
  induction h with
  | nil => exact h'
  | cons h _ ih => exact .cons h ih
theorem All2.take {l : List α} {m : List β} (h : All2 R l m) (n : Nat) : All2 R (l.take n) (m.take n) := by
  induction h generalizing n with
  | nil => simp; exact .nil
  | cons h _ ih =>
    cases n with
    | zero => simp; exact .nil
    | succ n => simp; exact .cons h (ih n)
theorem All2.drop {l : List α} {m : List β} (h : All2 R l m) (n : Nat) : All2 R (l.drop n) (m.drop n) := by
  induction h generalizing n with
  | nil => simp; exact .nil
  | cons h t ih =>
    cases n with
    | zero => simp; exact .cons h t
    | succ n => simp; exact ih n
theorem All2.get {l : List α} {m : List β} (h : All2 R l m) {i : Nat} {b : β} (hb : m[i]? = some b) : ∃ a, l[i]? = some a ∧ R a b := by
  induction h generalizing i with
  | nil => simp at hb
  | cons h _ ih =>
    cases i with
    | zero => simp at hb; subst hb; exact ⟨_, by simp, h⟩
    | succ i => simp at hb; simpa using ih hb
theorem All2.get' {l : List α} {m : List β} (h : All2 R l m) {i : Nat} {a : α} (ha : l[i]? = some a) : ∃ b, m[i]? = some b ∧ R a b := by
  induction h generalizing i with
  | nil => simp at ha
  | cons h _ ih =>
    cases i with
    | zero => simp at ha; subst ha; exact ⟨_, by simp, h⟩
    | succ i => simp at ha; simpa using ih ha
theorem All2.of {l : List α} {m : List β} (hl : l.length = m.length) (h : ∀ (i : Nat) a b, l[i]? = some a → m[i]? = some b → R a b) : All2 R l m := by
  induction l generalizing m with
  | nil => cases m with
    | nil => exact .nil
    | cons => simp at hl
  | cons a l ih => cases m with
    | nil => simp at hl
    | cons b m => exact .cons (h 0 a b (by simp) (by simp)) (ih (by simpa using hl) (fun i x y hx hy => h (i + 1) x y (by simpa using hx) (by simpa using hy)))
theorem All2.set {l : List α} {m : List β} (h : All2 R l m) (n : Nat) {a : α} {b : β} (hab : R a b) : All2 R (l.set n a) (m.set n b) := by
  induction h generalizing n with
  | nil => simp; exact .nil
  | cons h t ih =>
    cases n with
    | zero => simp; exact .cons hab t
    | succ n => simp; exact .cons h (ih n)
theorem All2.map {γ : Type} {f : β → γ} {T : α → γ → Prop} {l : List α} {m : List β} (h : All2 R l m) (hf : ∀ a b, R a b → T a (f b)) : All2 T l (m.map f) := by
  induction h with
  | nil => exact .nil
  | cons h _ ih => exact .cons (hf _ _ h) ih
theorem All2.mem {l : List α} {m : List β} (h : All2 R l m) {a : α} (ha : a ∈ l) : ∃ b, b ∈ m ∧ R a b := by
  induction h with
  | nil => cases ha
  | cons h _ ih =>
    cases ha with
    | head => exact ⟨_, .head _, h⟩
    | tail _ ha => obtain ⟨b, hb, hr⟩ := ih ha; exact ⟨b, .tail _ hb, hr⟩
end

inductive Loc where
  | box (b : Nat)
  | row (ver : Nat) (t : Ty) (v : Value)
  | bld (b : Nat) (v : Value)
  | dead
def Loc.has : Loc → Nat → Prop
  | .box b, c => c = b
  | .row _ _ v, c => v.ownBlock = some c
  | .bld b v, c => c = b ∨ v.ownBlock = some c
  | .dead, _ => False
abbrev Im := Nat → Option Loc
def Own (F : Nat → Prop) (I : Im) (b : Nat) : Prop := F b ∨ ∃ id l, I id = some l ∧ l.has b

def cellsOf (t : Ty) (xs : List (den t)) : List AV := xs.flatMap (leaves t)

inductive LeafR (w : World) (O : Nat → Prop) (I : Im) : Value → AV → Prop where
  | lit (b : Bool) : LeafR w O I (.bool b) (.lit b)
  | bool (b : Bool) : LeafR w O I (.bool b) (.bool b)
  | int (k : IntKind) (n : Int) : LeafR w O I (.int k n) (.int k n)
  | str (s : ByteArray) (h : s.size ≤ maxSl) : LeafR w O I (.string s) (.str s)
  | nil : LeafR w O I (.slice none 0 0) .nil
  | nilptr : LeafR w O I (.pointer none) .nilptr
  | zrow (ad : Addr) (c : Nat) : LeafR w O I (.slice (some ad) 0 c) .zrow
  | row0 (t : Ty) : LeafR w O I (.slice none 0 0) (.row t [])
  | rowz (ad : Addr) (c : Nat) (t : Ty) : LeafR w O I (.slice (some ad) 0 c) (.row t [])
  | row (b off c : Nat) (t : Ty) (xs : List (den t)) (vs : List Value) (hO : 0 < vs.length → ¬ O b) (hc : xs.length ≤ c) (hm : xs.length ≤ maxSl)
      (hv : ∀ (j : Nat) (u : Value), vs[j]? = some u → w.cell? ⟨b, off + j, none⟩ = some u) (hl : vs.length = (cellsOf t xs).length)
      (hr : ∀ (j : Nat) (u : Value) (x : AV), vs[j]? = some u → (cellsOf t xs)[j]? = some x → LeafR w O I u x) : LeafR w O I (.slice (some ⟨b, off, none⟩) xs.length c) (.row t xs)
  | own (v : Value) (id n : Nat) (h0 : (I id).isSome = true) (h1 : v.oneCell' = true) (h : ∀ m t u, I id = some (.row m t u) → n ≤ m ∧ (n = m → v = u)) : LeafR w O I v (.own id n)
  | ptr (v : Value) (id off : Nat) (h0 : (I id).isSome = true) (h1 : v.oneCell' = true) (h : ∀ b, I id = some (.box b) → v = .pointer (some ⟨b, off, none⟩))
      (h' : ∀ b u, I id = some (.bld b u) → off = 0 → v = .pointer (some ⟨b, 0, none⟩)) : LeafR w O I v (.ptr id off)
  | optr (v : Value) (id n : Nat) (i : Int) (off : Nat) (h0 : (I id).isSome = true) (h1 : v.oneCell' = true)
      (h : ∀ m t u, I id = some (.row m t u) → n ≤ m ∧ (n = m → 0 ≤ i ∧ ∃ g k c, i.toNat < k ∧ u = .slice (some ⟨g, 0, none⟩) k c ∧ v = .pointer (some ⟨g, i.toNat * width t + off, none⟩))) : LeafR w O I v (.optr id n i off)
  | pin (b base c : Nat) (t : Ty) (xs : List (den t)) (i : Int) (off : Nat) (h0 : 0 ≤ i) (h1 : i.toNat < xs.length) (h : LeafR w O I (.slice (some ⟨b, base, none⟩) xs.length c) (.row t xs)) :
      LeafR w O I (.pointer (some ⟨b, base + (i.toNat * width t + off), none⟩)) (.pin t xs i off)
  | fn (f : Nat) (caps : List AV) (cs : List Value) (hl : cs.length = caps.length) (h : ∀ (j : Nat) (u : Value) (x : AV), cs[j]? = some u → caps[j]? = some x → LeafR w O I u x) :
      LeafR w O I (.func (.func f) #[] cs.toArray) (.fn f caps)
  | any (v : Value) (h1 : v.oneCell' = true) : LeafR w O I v .any

theorem LeafR.one {w : World} {O : Nat → Prop} {I : Im} {v : Value} {a : AV} (h : LeafR w O I v a) : v.oneCell' = true := by
  cases h <;> first | rfl | assumption

def ImLe (I I' : Im) : Prop := ∀ id l, I id = some l → ∃ l', I' id = some l' ∧ (l' = l ∨ l' = .dead ∨ (∃ m m' t t' v v', l = .row m t v ∧ l' = .row m' t' v' ∧ m < m') ∨ ∃ b v v', l = .bld b v ∧ l' = .bld b v')
theorem ImLe.refl (I : Im) : ImLe I I := fun _ l h => ⟨l, h, .inl rfl⟩

theorem LeafR.mono {w w' : World} {O O' : Nat → Prop} {I I' : Im} (hw : ∀ b, ¬ O b → b < w.heap.size → w'.heap[b]? = w.heap[b]?) (hO : ∀ b, b < w.heap.size → O' b → O b) (hI : ImLe I I')
    {v : Value} {a : AV} (h : LeafR w O I v a) : LeafR w' O' I' v a := by
  have back : ∀ {id l'}, (I id).isSome = true → I' id = some l' → (I id = some l' ∨ l' = .dead ∨ (∃ m m' t t' v v', I id = some (.row m t v) ∧ l' = .row m' t' v' ∧ m < m') ∨ ∃ b v v', I id = some (.bld b v) ∧ l' = .bld b v') := by
    intro id l' h0 h'
    obtain ⟨l, hl⟩ := Option.isSome_iff_exists.1 h0
    obtain ⟨l2, hl2, h2⟩ := hI id l hl
    rw [h'] at hl2
    injection hl2 with e
    subst e
    rcases h2 with rfl | rfl | ⟨m, m', t, t', v, v', rfl, rfl, hm⟩ | ⟨b, v, v', rfl, rfl⟩
    · exact .inl hl
    · exact .inr (.inl rfl)
    · exact .inr (.inr (.inl ⟨m, m', t, t', v, v', hl, rfl, hm⟩))
    · exact .inr (.inr (.inr ⟨b, v, v', hl, rfl⟩))
  have some' : ∀ {id}, (I id).isSome = true → (I' id).isSome = true := by
    intro id h0
    obtain ⟨l, hl⟩ := Option.isSome_iff_exists.1 h0
    obtain ⟨l2, hl2, _⟩ := hI id l hl
    rw [hl2]; rfl
  induction h with
  | lit b => exact .lit b
  | bool b => exact .bool b
  | int k n => exact .int k n
  | str s h => exact .str s h
  | nil => exact .nil
  | nilptr => exact .nilptr
  | zrow ad c => exact .zrow ad c
  | row0 t => exact .row0 t
  | rowz ad c t => exact .rowz ad c t
  | row b off c t xs vs h1 h2 h3 hv hl _ ih =>
    refine .row b off c t xs vs (fun hp ho => ?_) h2 h3 (fun j u hu => ?_) hl ih
    · obtain ⟨u, hu⟩ : ∃ u, vs[0]? = some u := ⟨vs[0], List.getElem?_eq_getElem hp⟩
      have hc := hv 0 u hu
      exact h1 hp (hO b (World.block_lt_of_cell? w _ hc) ho)
    · have hc := hv j u hu
      have hp : 0 < vs.length := by
        rcases Nat.eq_zero_or_pos vs.length with h | h
        · rw [List.eq_nil_of_length_eq_zero h] at hu; simp at hu
        · exact h
      exact (World.cell?_of_block (hw b (h1 hp) (World.block_lt_of_cell? w _ hc))).trans hc
  | own v id n h0 h1 h =>
    refine .own v id n (some' h0) h1 fun m t u hm => ?_
    rcases back h0 hm with h' | h' | ⟨m0, m', t0, t', v0, v', e1, e2, hlt⟩ | ⟨_, _, _, _, e⟩
    · exact h m t u h'
    · cases h'
    · cases e2
      have := (h m0 t0 v0 e1).1
      exact ⟨by omega, fun e => by omega⟩
    · cases e
  | ptr v id off h0 h1 h h' =>
    refine .ptr v id off (some' h0) h1 (fun b hb => ?_) (fun b u hb ho => ?_)
    · rcases back h0 hb with e | e | ⟨_, _, _, _, _, _, _, e, _⟩ | ⟨_, _, _, _, e⟩
      · exact h b e
      · cases e
      · cases e
      · cases e
    · rcases back h0 hb with e | e | ⟨_, _, _, _, _, _, _, e, _⟩ | ⟨b', v', v'', e1, e2⟩
      · exact h' b u e ho
      · cases e
      · cases e
      · injection e2 with e2 _
        subst e2
        exact h' b v' e1 ho
  | optr v id n i off h0 h1 h =>
    refine .optr v id n i off (some' h0) h1 fun m t u hm => ?_
    rcases back h0 hm with h' | h' | ⟨m0, m', t0, t', v0, v', e1, e2, hlt⟩ | ⟨_, _, _, _, e⟩
    · exact h m t u h'
    · cases h'
    · cases e2
      have := (h m0 t0 v0 e1).1
      exact ⟨by omega, fun e => by omega⟩
    · cases e
  | pin b base c t xs i off h0 h1 _ ih => exact .pin b base c t xs i off h0 h1 ih
  | fn f caps cs hl _ ih => exact .fn f caps cs hl ih
  | any v h1 => exact .any v h1

def ValR1 (w : World) (O : Nat → Prop) (I : Im) (v : Value) (a : AV) : Prop :=
  match a with
  | .any => True
  | .agg fs => ∃ cs : List Value, v = .agg cs.toArray ∧ All2 (LeafR w O I) cs fs
  | .tup vs => v = undef ∧ vs = []
  | a => LeafR w O I v a
def ValR (w : World) (O : Nat → Prop) (I : Im) (v : Value) (a : AV) : Prop :=
  match a with
  | .tup vs => ∃ us : List Value, v = .tuple us.toArray ∧ All2 (ValR1 w O I) us vs
  | a => ValR1 w O I v a

section
variable {w w' : World} {O O' : Nat → Prop} {I I' : Im}
theorem ValR1.mono (hw : ∀ b, ¬ O b → b < w.heap.size → w'.heap[b]? = w.heap[b]?) (hO : ∀ b, b < w.heap.size → O' b → O b) (hI : ImLe I I') {v : Value} {a : AV} (h : ValR1 w O I v a) : ValR1 w' O' I' v a := by
  cases a with
  | any => trivial
  | agg fs => obtain ⟨cs, e, h⟩ := h; exact ⟨cs, e, h.mono fun _ _ h => h.mono hw hO hI⟩
  | tup vs => exact h
  | _ => exact LeafR.mono hw hO hI h
theorem ValR.is1 {v : Value} {a : AV} (h : ∀ vs, a ≠ .tup vs) : ValR w O I v a = ValR1 w O I v a := by
  cases a <;> first | rfl | exact absurd rfl (h _)
theorem ValR.mono (hw : ∀ b, ¬ O b → b < w.heap.size → w'.heap[b]? = w.heap[b]?) (hO : ∀ b, b < w.heap.size → O' b → O b) (hI : ImLe I I') {v : Value} {a : AV} (h : ValR w O I v a) : ValR w' O' I' v a := by
  by_cases e : ∃ vs, a = .tup vs
  · obtain ⟨vs, rfl⟩ := e
    obtain ⟨cs, e, h⟩ := h
    exact ⟨cs, e, h.mono fun _ _ h => h.mono hw hO hI⟩
  · have e' : ∀ vs, a ≠ .tup vs := fun vs h => e ⟨vs, h⟩
    rw [ValR.is1 e'] at h ⊢
    exact h.mono hw hO hI
theorem ValR.of1 {v : Value} {a : AV} (h : ValR1 w O I v a) : ValR w O I v a := by
  cases a <;> try exact h
  obtain ⟨e, e'⟩ := h
  subst e'
  exact ⟨[], e, .nil⟩
theorem ValR1.leaf {v : Value} {a : AV} (h : LeafR w O I v a) : ValR1 w O I v a := by
  cases a with
  | any => trivial
  | agg fs => cases h
  | tup vs => cases h
  | _ => exact h
theorem ValR.leaf {v : Value} {a : AV} (h : LeafR w O I v a) : ValR w O I v a := .of1 (.leaf h)
theorem ValR.ptr {v : Value} {id off : Nat} (h : ValR w O I v (.ptr id off)) : (I id).isSome = true ∧ v.oneCell' = true ∧ (∀ b, I id = some (.box b) → v = .pointer (some ⟨b, off, none⟩)) ∧
    (∀ b u, I id = some (.bld b u) → off = 0 → v = .pointer (some ⟨b, 0, none⟩)) := by
  cases (show LeafR w O I v _ from h); exact ⟨by assumption, by assumption, by assumption, by assumption⟩
theorem ValR.own {v : Value} {id n : Nat} (h : ValR w O I v (.own id n)) : (I id).isSome = true ∧ v.oneCell' = true ∧ ∀ m t u, I id = some (.row m t u) → n ≤ m ∧ (n = m → v = u) := by
  cases (show LeafR w O I v _ from h); exact ⟨by assumption, by assumption, by assumption⟩
theorem ValR.optr {v : Value} {id n : Nat} {i : Int} {off : Nat} (h : ValR w O I v (.optr id n i off)) : (I id).isSome = true ∧ v.oneCell' = true ∧ ∀ m t u, I id = some (.row m t u) → n ≤ m ∧
    (n = m → 0 ≤ i ∧ ∃ g k c, i.toNat < k ∧ u = .slice (some ⟨g, 0, none⟩) k c ∧ v = .pointer (some ⟨g, i.toNat * width t + off, none⟩)) := by
  cases (show LeafR w O I v _ from h); exact ⟨by assumption, by assumption, by assumption⟩
theorem ValR.pin {v : Value} {t : Ty} {xs : List (den t)} {i : Int} {off : Nat} (h : ValR w O I v (.pin t xs i off)) : 0 ≤ i ∧ i.toNat < xs.length ∧ ∃ b base c, v = .pointer (some ⟨b, base + (i.toNat * width t + off), none⟩) ∧
    LeafR w O I (.slice (some ⟨b, base, none⟩) xs.length c) (.row t xs) := by
  cases (show LeafR w O I v _ from h); exact ⟨by assumption, by assumption, _, _, _, rfl, by assumption⟩
theorem ValR.fn {v : Value} {f : Nat} {caps : List AV} (h : ValR w O I v (.fn f caps)) : ∃ cs : List Value, v = .func (.func f) #[] cs.toArray ∧ All2 (LeafR w O I) cs caps := by
  cases (show LeafR w O I v _ from h) with
  | fn _ _ cs hl h => exact ⟨cs, rfl, .of hl h⟩
end

/-! ### Package tables -/
def flatV : AV → Value
  | .int k n => .int k n
  | .str s => .string s
  | .bool b => .bool b
  | _ => .bool false
def simpA : AV → Bool
  | .int _ _ => true
  | .bool _ => true
  | .str s => Nat.ble s.size 1048576
  | _ => false
theorem simpA_R {w : World} {O : Nat → Prop} {I : Im} {a : AV} (h : simpA a = true) : LeafR w O I (flatV a) a := by
  cases a <;> first | (cases h; done) | exact .int _ _ | exact .bool _ | exact .str _ (Nat.le_trans (Nat.le_of_ble_eq_true h) (by unfold maxSl; decide))
def gloB (p : Glo) : Bool := Nat.blt 0 p.xs.length && Nat.ble p.xs.length 1048576 && (cellsOf p.t p.xs).all simpA
def GOK (tid : Env) (w : World) (O : Nat → Prop) : Prop :=
  (∀ p ∈ tid.glob, gloB p = true ∧ ¬ O p.g ∧ p.g < w.heap.size ∧ ∀ j a, (cellsOf p.t p.xs)[j]? = some a → w.cell? ⟨p.g, j, none⟩ = some (flatV a)) ∧
  ∀ g ∈ tid.ints, ¬ O g ∧ ∃ m, w.cell? ⟨g, 0, none⟩ = some (.int .i64 m)
theorem GOK.mono {tid : Env} {w w' : World} {O O' : Nat → Prop} (hw : ∀ b, ¬ O b → b < w.heap.size → w'.heap[b]? = w.heap[b]?) (hO : ∀ b, b < w.heap.size → O' b → O b) (h : GOK tid w O) : GOK tid w' O' := by
  refine ⟨fun p hp => ?_, fun g hg => ?_⟩
  · obtain ⟨h1, h2, h3, h4⟩ := h.1 p hp
    have e := hw p.g h2 h3
    refine ⟨h1, fun ho => h2 (hO _ h3 ho), ?_, fun j a ha => (World.cell?_of_block e).trans (h4 j a ha)⟩
    rw [Array.getElem?_eq_getElem h3] at e
    exact (Array.getElem?_eq_some_iff.1 e).1
  · obtain ⟨h2, m, hm⟩ := h.2 g hg
    have h3 := World.block_lt_of_cell? w _ hm
    exact ⟨fun ho => h2 (hO _ h3 ho), m, (World.cell?_of_block (hw g h2 h3)).trans hm⟩
theorem GOK.sub {tid : Env} {w : World} {O O' : Nat → Prop} (hO : ∀ b, O' b → O b) (h : GOK tid w O) : GOK tid w O' := h.mono (fun _ _ _ => rfl) fun b _ hb => hO b hb
theorem globA_R {w : World} {O : Nat → Prop} {I : Im} {g : Nat} : ∀ {l : List Glo}, (∀ p ∈ l, gloB p = true ∧ ¬ O p.g ∧ p.g < w.heap.size ∧ ∀ j a, (cellsOf p.t p.xs)[j]? = some a → w.cell? ⟨p.g, j, none⟩ = some (flatV a)) → ValR w O I (.pointer (some ⟨g, 0, none⟩)) (globA l g)
  | [], _ => trivial
  | p :: l, h => by
    unfold globA
    split
    · rename_i hb
      have hb := Nat.eq_of_beq_eq_true hb
      subst hb
      obtain ⟨h1, h2, h3, h4⟩ := h p (.head _)
      unfold gloB at h1
      simp only [Bool.and_eq_true] at h1
      obtain ⟨⟨a1, a2⟩, a3⟩ := h1
      have b1 : 0 < p.xs.length := Nat.le_of_ble_eq_true a1
      have b2 : p.xs.length ≤ 1048576 := Nat.le_of_ble_eq_true a2
      have hrow : LeafR w O I (.slice (some ⟨p.g, 0, none⟩) p.xs.length p.xs.length) (.row p.t p.xs) :=
        .row p.g 0 p.xs.length p.t p.xs ((cellsOf p.t p.xs).map flatV) (fun _ => h2) (Nat.le_refl _) (Nat.le_trans b2 (by unfold maxSl; decide))
          (fun j u hu => by
            rw [List.getElem?_map, Option.map_eq_some_iff] at hu
            obtain ⟨a, ha, rfl⟩ := hu
            rw [Nat.zero_add]; exact h4 j a ha)
          (by rw [List.length_map])
          (fun j u x hu hx => by
            rw [List.getElem?_map, hx] at hu
            injection hu with hu
            subst hu
            exact simpA_R (List.all_eq_true.1 a3 x (List.mem_of_getElem? hx)))
      have := LeafR.pin p.g 0 p.xs.length p.t p.xs 0 0 (Int.le_refl _) b1 hrow
      simp only [Int.toNat_zero, Nat.zero_mul, Nat.zero_add] at this
      exact .leaf this
    · exact globA_R fun q hq => h q (.tail _ hq)
end Go.Proofs.YtnhipiedjekkpaaGreatDoor.AX
end
section
namespace Go.Proofs.YtnhipiedjekkpaaGreatDoor.AX
open Go Go.RowKit

def BlkR (tid : Env) (w : World) (O : Nat → Prop) (I : Im) (l : Loc) (b : Blk) : Prop :=
  match b with
  | .box cells => ∃ g cs ty, l = .box g ∧ w.heap[g]? = some (.cells cs ty (0, 0)) ∧ All2 (LeafR w O I) cs.toList cells
  | .rowb n t xs => ∃ v vs, l = .row n t v ∧ xs.length ≤ maxSl ∧ w.ownsRow 0 (tid t) (width t) v xs.length vs ∧ All2 (LeafR w O I) vs (cellsOf t xs)
  | .bld s => ∃ g v p ty vs, l = .bld g v ∧ ty = tid .bld ∧ w.heap[g]? = some (.cells #[p, v] ty (0, 0)) ∧ (p = .pointer none ∨ p = .pointer (some ⟨g, 0, none⟩)) ∧ v.ownBlock ≠ some g ∧
      w.ownsRowF 0 (tid .u8) 1 v s.size vs ∧ (vs = s.data.toList.map fun b => .int .u8 b.toNat) ∧ (s.size = 0 → v = .slice none 0 0)
  | .dead => l = .dead

structure Rel (tid : Env) (w0 : World) (E F : Nat → Prop) (I : Im) (s : St) (a : Act) (w : World) : Prop where
  defers : a.defers = []
  tm : All2 (ValR w (Own F I) I) a.tmps.toList s.tm
  hp : ∀ id, match s.hp.getD id none with
    | some b => ∃ l, I id = some l ∧ BlkR tid w (Own F I) I l b
    | none => I id = none
  inj : ∀ id id' l l' b, I id = some l → I id' = some l' → l.has b → l'.has b → id = id'
  apart : ∀ id l b, I id = some l → l.has b → ¬ F b
  place : ∀ id l b, I id = some l → l.has b → (E b ∨ w0.heap.size ≤ b) ∧ b < w.heap.size
  out : ∀ b, F b → b < w0.heap.size
  os : w.os = w0.os
  tape : w.tape = w0.tape
  output : w.output = w0.output
  size : w0.heap.size ≤ w.heap.size
  kept : ∀ b, b < w0.heap.size → ¬ E b → w.heap[b]? = w0.heap[b]?
  glob : GOK tid w (Own F I)

theorem ownsRow_mono {w w' : World} {e : TypeId} {z n : Nat} {v : Value} {vs : List Value} (h : w.ownsRow 0 e z v n vs) (hw : ∀ b, v.ownBlock = some b → w'.heap[b]? = w.heap[b]?) : w'.ownsRow 0 e z v n vs := by
  refine ⟨h.1, ?_⟩
  rcases h.2 with h2 | ⟨g, cap, cur, rfl, h3, h4, h5⟩
  · exact .inl h2
  · exact .inr ⟨g, cap, cur, rfl, h3, (hw g rfl).trans h4, h5⟩

theorem ownsRowF_mono {w w' : World} {e : TypeId} {z n : Nat} {v : Value} {vs : List Value} (h : w.ownsRowF 0 e z v n vs) (hw : ∀ b, v.ownBlock = some b → w'.heap[b]? = w.heap[b]?) : w'.ownsRowF 0 e z v n vs := by
  refine ⟨h.1, ?_⟩
  rcases h.2 with h2 | ⟨g, cap, cur, fz, rfl, h3, h4, h5⟩
  · exact .inl h2
  · exact .inr ⟨g, cap, cur, fz, rfl, h3, (hw g rfl).trans h4, h5⟩

theorem BlkR.mono {tid : Env} {w w' : World} {O O' : Nat → Prop} {I I' : Im} (hw : ∀ b, ¬ O b → b < w.heap.size → w'.heap[b]? = w.heap[b]?) (hO : ∀ b, b < w.heap.size → O' b → O b) (hI : ImLe I I') {l : Loc} {b : Blk}
    (hl : ∀ g, l.has g → w'.heap[g]? = w.heap[g]?) (h : BlkR tid w O I l b) : BlkR tid w' O' I' l b := by
  cases b with
  | box cells =>
    obtain ⟨g, cs, ty, rfl, h1, h2⟩ := h
    exact ⟨g, cs, ty, rfl, (hl g rfl).trans h1, h2.mono fun _ _ h => h.mono hw hO hI⟩
  | rowb n t xs =>
    obtain ⟨v, vs, rfl, h0, h1, h2⟩ := h
    exact ⟨v, vs, rfl, h0, ownsRow_mono h1 hl, h2.mono fun _ _ h => h.mono hw hO hI⟩
  | bld s =>
    obtain ⟨g, v, p, ty, vs, rfl, ht, h1, h2, h3, h4, h5⟩ := h
    exact ⟨g, v, p, ty, vs, rfl, ht, (hl g (.inl rfl)).trans h1, h2, h3, ownsRowF_mono h4 fun b hb => hl b (.inr hb), h5⟩
  | dead => exact h

def iup (I : Im) (id : Nat) (l : Loc) : Im := fun k => if k = id then some l else I k
@[simp] theorem iup_same (I : Im) (id : Nat) (l : Loc) : iup I id l id = some l := by simp [iup]
theorem iup_ne (I : Im) {id k : Nat} (l : Loc) (h : k ≠ id) : iup I id l k = I k := by simp [iup, h]

theorem getD_set_same {α : Type} {l : List (Option α)} {n : Nat} (h : n < l.length) (a : Option α) : (l.set n a).getD n none = a := by
  simp [List.getD, h]
theorem getD_set_ne {α : Type} {l : List (Option α)} {n k : Nat} (h : k ≠ n) (a : Option α) : (l.set n a).getD k none = l.getD k none := by
  simp [List.getD, Ne.symm h]

section
variable {tid : Env} {w0 w w' : World} {E F : Nat → Prop} {I : Im} {s : St} {a : Act}

theorem Rel.upd (hR : Rel tid w0 E F I s a w) {id : Nat} {l : Loc} {b : Blk} (hid : id < s.hp.length)
    (hle : ∀ l0, I id = some l0 → l = l0 ∨ l = .dead ∨ ∃ m m' t v v', l0 = .row m t v ∧ l = .row m' t v' ∧ m < m')
    (hw : ∀ g, g < w.heap.size → (∀ l0, I id = some l0 → ¬ l0.has g) → w'.heap[g]? = w.heap[g]?)
    (hl : ∀ g, l.has g → ((∃ l0, I id = some l0 ∧ l0.has g) ∨ w.heap.size ≤ g) ∧ g < w'.heap.size)
    (hos : w'.os = w.os) (htape : w'.tape = w.tape) (hout : w'.output = w.output) (hsz : w.heap.size ≤ w'.heap.size)
    (hb : (∀ v x, LeafR w (Own F I) I v x → LeafR w' (Own F (iup I id l)) (iup I id l) v x) → BlkR tid w' (Own F (iup I id l)) (iup I id l) l b) :
    Rel tid w0 E F (iup I id l) ⟨s.tm, s.hp.set id (some b)⟩ a w' := by
  have hI : ImLe I (iup I id l) := by
    intro k lk hk
    by_cases e : k = id
    · subst e
      refine ⟨l, iup_same _ _ _, ?_⟩
      rcases hle lk hk with h | h | h
      · exact .inl h
      · exact .inr (.inl h)
      · obtain ⟨m, m', t, v, v', h1, h2, h3⟩ := h
        exact .inr (.inr (.inl ⟨m, m', t, t, v, v', h1, h2, h3⟩))
    · exact ⟨lk, by rw [iup_ne _ _ e]; exact hk, .inl rfl⟩
  have hO : ∀ g, g < w.heap.size → Own F (iup I id l) g → Own F I g := by
    intro g hg h
    rcases h with h | ⟨k, lk, hk, hh⟩
    · exact .inl h
    · by_cases e : k = id
      · subst e
        rw [iup_same] at hk
        injection hk with hk
        subst hk
        rcases (hl g hh).1 with ⟨l0, h0, h1⟩ | h
        · exact .inr ⟨k, l0, h0, h1⟩
        · omega
      · rw [iup_ne _ _ e] at hk
        exact .inr ⟨k, lk, hk, hh⟩
  have hw' : ∀ g, ¬ Own F I g → g < w.heap.size → w'.heap[g]? = w.heap[g]? := fun g hn hg => hw g hg fun l0 h0 h1 => hn (.inr ⟨id, l0, h0, h1⟩)
  refine ⟨hR.defers, hR.tm.mono fun _ _ h => h.mono hw' hO hI, fun k => ?_, ?_, ?_, ?_, hR.out, hos.trans hR.os, htape.trans hR.tape, hout.trans hR.output, Nat.le_trans hR.size hsz, ?_, hR.glob.mono hw' hO⟩
  · by_cases e : k = id
    · subst e
      rw [getD_set_same hid]
      exact ⟨l, iup_same _ _ _, hb fun v x h => h.mono hw' hO hI⟩
    · rw [getD_set_ne e, iup_ne _ _ e]
      have hk := hR.hp k
      generalize s.hp.getD k none = ob at hk ⊢
      cases ob with
      | some bk =>
        obtain ⟨lk, h1, h2⟩ := hk
        refine ⟨lk, h1, h2.mono hw' hO hI fun g hg => hw g (hR.place k lk g h1 hg).2 fun l0 h0 hh => e (hR.inj k id lk l0 g h1 h0 hg hh)⟩
      | none => exact hk
  · intro k k' lk lk' g h1 h2 h3 h4
    by_cases e : k = id
    · by_cases e' : k' = id
      · rw [e, e']
      · subst e
        rw [iup_same] at h1
        injection h1 with h1
        subst h1
        rw [iup_ne _ _ e'] at h2
        rcases (hl g h3).1 with ⟨l0, h0, hh⟩ | h
        · exact hR.inj k k' l0 lk' g h0 h2 hh h4
        · have := (hR.place k' lk' g h2 h4).2; omega
    · rw [iup_ne _ _ e] at h1
      by_cases e' : k' = id
      · subst e'
        rw [iup_same] at h2
        injection h2 with h2
        subst h2
        rcases (hl g h4).1 with ⟨l0, h0, hh⟩ | h
        · exact hR.inj k k' lk l0 g h1 h0 h3 hh
        · have := (hR.place k lk g h1 h3).2; omega
      · rw [iup_ne _ _ e'] at h2
        exact hR.inj k k' lk lk' g h1 h2 h3 h4
  · intro k lk g h1 h2 hF
    by_cases e : k = id
    · subst e
      rw [iup_same] at h1
      injection h1 with h1
      subst h1
      rcases (hl g h2).1 with ⟨l0, h0, hh⟩ | h
      · exact hR.apart k l0 g h0 hh hF
      · have := hR.out g hF; have := hR.size; omega
    · rw [iup_ne _ _ e] at h1
      exact hR.apart k lk g h1 h2 hF
  · intro k lk g h1 h2
    by_cases e : k = id
    · subst e
      rw [iup_same] at h1
      injection h1 with h1
      subst h1
      rcases (hl g h2).1 with ⟨l0, h0, hh⟩ | h
      · have := hR.place k l0 g h0 hh
        exact ⟨this.1, (hl g h2).2⟩
      · exact ⟨.inr (Nat.le_trans hR.size h), (hl g h2).2⟩
    · rw [iup_ne _ _ e] at h1
      have := hR.place k lk g h1 h2
      exact ⟨this.1, Nat.lt_of_lt_of_le this.2 hsz⟩
  · intro g hg hE
    refine (hw g (Nat.lt_of_lt_of_le hg hR.size) fun l0 h0 hh => ?_).trans (hR.kept g hg hE)
    rcases (hR.place id l0 g h0 hh).1 with h | h
    · exact hE h
    · omega

theorem Rel.put (hR : Rel tid w0 E F I s a w) (d : Option Tmp) {v : Value} {x : AV} (h : ValR w (Own F I) I v x) :
    Rel tid w0 E F I ⟨match d with | some d => s.tm.set d x | none => s.tm, s.hp⟩ (a.put d v) w := by
  cases d with
  | none => exact hR
  | some d => exact { hR with tm := by simpa [Act.put] using hR.tm.set d h }

theorem Rel.drew (hR : Rel tid w0 E F I s a w) : Rel tid w0 E F I s a { w with drawn := w.drawn + 1 } := by
  have hw : ∀ b, ¬ Own F I b → b < w.heap.size → ({ w with drawn := w.drawn + 1 } : World).heap[b]? = w.heap[b]? := fun _ _ _ => rfl
  refine { hR with tm := hR.tm.mono fun _ _ h => h.mono hw (fun _ _ h => h) (ImLe.refl I), hp := fun id => ?_, glob := hR.glob.mono hw fun _ _ h => h }
  have := hR.hp id
  generalize s.hp.getD id none = ob at this ⊢
  cases ob with
  | some b =>
    obtain ⟨l, h1, h2⟩ := this
    exact ⟨l, h1, h2.mono hw (fun _ _ h => h) (ImLe.refl I) fun _ _ => rfl⟩
  | none => exact this
end
end Go.Proofs.YtnhipiedjekkpaaGreatDoor.AX
end
section
namespace Go.Proofs.YtnhipiedjekkpaaGreatDoor.AX
open Go Go.RowKit

def setAll (hp : List (Option Blk)) : List (Nat × Blk) → List (Option Blk)
  | [] => hp
  | (id, b) :: l => setAll (hp.set id (some b)) l
def putL' (tm : List AV) (d : Option Tmp) (v : AV) : List AV :=
  match d with
  | some d => tm.set d v
  | none => tm
def stepSt (s : St) (d : Option Tmp) (e : Eff) : St := ⟨putL' s.tm d e.dst, setAll s.hp e.sets⟩
def preP (e : Eff) : Prop :=
  match e.pre with
  | some p => p
  | none => True
def givenP (e : Eff) : Prop :=
  match e.given with
  | some p => p
  | none => True

theorem wp_of_value {P : Program} {o : Oper} {a : Act} {w w' : World} {next : Act → World → Prop} {Q : Exit → Act → World → Prop} {v : Value} (h : (execOp a.eval o).run P w = .ok (.value v) w') (hn : next (a.put o.dst v) w') : o.wp P a w next Q := by
  unfold Oper.wp; rw [h]; exact hn
theorem wp_of_skip {P : Program} {o : Oper} {a : Act} {w w' : World} {next : Act → World → Prop} {Q : Exit → Act → World → Prop} (h : (execOp a.eval o).run P w = .ok .skip w') (hn : next (a.put o.dst undef) w') : o.wp P a w next Q := by
  unfold Oper.wp; rw [h]; exact hn

/-! ### What runs of Rd say -/
theorem run_bind {α β : Type} {hp : List (Option Blk)} {x : Rd α} {f : α → Rd β} {b : β} {l : List Nat} (h : (x.bind f).run hp = some (b, l)) :
    ∃ a l1 l2, x.run hp = some (a, l1) ∧ (f a).run hp = some (b, l2) ∧ l = l1 ++ l2 := by
  induction x generalizing l with
  | ret a => exact ⟨a, [], l, rfl, h, rfl⟩
  | ask id k ih =>
    simp only [Rd.bind, Rd.run] at h
    split at h
    · rename_i r q hq
      injection h with h
      injection h with h1 h2
      subst h1; subst h2
      obtain ⟨a, l1, l2, h1, h2, h3⟩ := ih _ hq
      exact ⟨a, id :: l1, l2, by simp only [Rd.run, h1], h2, by rw [h3]; rfl⟩
    · cases h
  | fail => cases h
theorem run_of {α : Type} {hp : List (Option Blk)} {x : Option α} {b : α} {l : List Nat} (h : (Rd.of x).run hp = some (b, l)) : x = some b ∧ l = [] := by
  cases x with
  | none => cases h
  | some a => injection h with h; injection h with h1 h2; exact ⟨by rw [h1], h2.symm⟩
theorem run_ret {α : Type} {hp : List (Option Blk)} {x b : α} {l : List Nat} (h : (Rd.ret x).run hp = some (b, l)) : x = b ∧ l = [] := by
  injection h with h; injection h with h1 h2; exact ⟨h1, h2.symm⟩
theorem run_ask {α : Type} {hp : List (Option Blk)} {id : Nat} {k : Option Blk → Rd α} {b : α} {l : List Nat} (h : (Rd.ask id k).run hp = some (b, l)) :
    ∃ l', (k (hp.getD id none)).run hp = some (b, l') ∧ l = id :: l' := by
  simp only [Rd.run] at h
  split at h
  · rename_i r q hq
    injection h with h; injection h with h1 h2
    exact ⟨q, by rw [hq, h1], h2.symm⟩
  · cases h
theorem run_fail {α : Type} {hp : List (Option Blk)} {b : α} {l : List Nat} (h : (Rd.fail : Rd α).run hp = some (b, l)) : False := by cases h

/-! ### Operands -/
section
variable {tid : Env} {w0 w w' : World} {E F : Nat → Prop} {I : Im} {s : St} {a : Act} {O : Nat → Prop}

theorem leafOf_R (v : Value) (h : oneV v = true) : LeafR w O I v (leafOf v) := by
  cases v with
  | bool b => exact .lit b
  | int k n => exact .int k n
  | string s =>
    unfold leafOf
    by_cases e : Nat.ble s.size 1048576 = true
    · simp only [e, if_true]
      exact .str s (by have := Nat.le_of_ble_eq_true e; unfold maxSl; omega)
    · simp only [e, if_false, Bool.false_eq_true]
      exact .any _ rfl
  | slice p n c =>
    unfold leafOf
    split
    · rename_i h; cases h
    · rename_i h; cases h
    · rename_i h; cases h
    · rename_i h; injection h with h1 h2 h3; subst h1; subst h2; subst h3; exact .nil
    · rename_i h; cases h
    · exact .any _ rfl
  | pointer p =>
    cases p with
    | none => exact .nilptr
    | some p => exact .any _ rfl
  | agg _ => cases h
  | tuple _ => cases h
  | _ => exact .any _ rfl
theorem leavesOf_R (l : List Value) (h : allOneV l = true) : All2 (LeafR w O I) l (l.map leafOf) := by
  induction l with
  | nil => exact .nil
  | cons v l ih =>
    unfold allOneV at h
    split at h
    · rename_i hv; exact .cons (leafOf_R v hv) (ih h)
    · cases h
theorem avOf_R (v : Value) : ValR w O I v (avOf v) := by
  cases v with
  | agg cs =>
    unfold avOf
    simp only
    split
    · rename_i h; exact ⟨cs.toList, by simp, leavesOf_R _ h⟩
    · trivial
  | tuple vs => trivial
  | _ => exact .leaf (leafOf_R _ rfl)

theorem Rel.ev (hR : Rel tid w0 E F I s a w) (x : Operand) : ValR w (Own F I) I (a.eval x) (evalA tid.glob s x) := by
  cases x with
  | tmp t =>
    simp only [Act.eval, evalA]
    by_cases h : t < s.tm.length
    · obtain ⟨v, hv, hr⟩ := hR.tm.get (i := t) (b := s.tm[t]) (by simp [h])
      have h1 : s.tm.getD t .any = s.tm[t] := by simp [List.getD, h]
      have h2 : a.tmps.getD t undef = v := by
        have : a.tmps[t]? = some v := by simpa using hv
        simp [this]
      rw [h1, h2]; exact hr
    · have h1 : s.tm.getD t .any = .any := by simp [List.getD, List.getElem?_eq_none (Nat.le_of_not_lt h)]
      rw [h1]; trivial
  | const v => exact avOf_R v
  | func f => exact .leaf (.fn f [] [] rfl (fun j u x hu => by simp at hu))
  | global g => exact globA_R hR.glob.1

/-! ### What a value is, by what the executor has for it -/
theorem ValR.leaf' {v : Value} {x : AV} (h : ValR w O I v x) (h1 : ∀ fs, x ≠ .agg fs) (h2 : ∀ vs, x ≠ .tup vs) (h3 : x ≠ .any) : LeafR w O I v x := by
  cases x <;> first | exact h | exact absurd rfl (h1 _) | exact absurd rfl (h2 _) | exact absurd rfl h3
theorem ValR.lit {v : Value} {b : Bool} (h : ValR w O I v (.lit b)) : v = .bool b := by cases (show LeafR w O I v _ from h); rfl
theorem ValR.bool {v : Value} {b : Bool} (h : ValR w O I v (.bool b)) : v = .bool b := by cases (show LeafR w O I v _ from h); rfl
theorem ValR.int {v : Value} {k : IntKind} {n : Int} (h : ValR w O I v (.int k n)) : v = .int k n := by cases (show LeafR w O I v _ from h); rfl
theorem ValR.str {v : Value} {s : ByteArray} (h : ValR w O I v (.str s)) : v = .string s ∧ s.size ≤ maxSl := by cases (show LeafR w O I v _ from h); exact ⟨rfl, by assumption⟩
theorem ValR.nil {v : Value} (h : ValR w O I v .nil) : v = .slice none 0 0 := by cases (show LeafR w O I v _ from h); rfl
theorem ValR.asBool {v : Value} {x : AV} {b : Bool} (h : ValR w O I v x) (hx : asBoolA x = some b) : v = .bool b := by
  cases x <;> simp only [asBoolA] at hx <;> (first | (cases hx; done) | (injection hx with hx; subst hx; first | exact h.lit | exact h.bool))
theorem ValR.row {v : Value} {t : Ty} {xs : List (den t)} (h : ValR w O I v (.row t xs)) : (∃ p c, v = .slice p xs.length c) ∧ xs.length ≤ maxSl := by
  cases (show LeafR w O I v _ from h) with
  | row0 t => exact ⟨⟨none, 0, rfl⟩, by simp [maxSl]⟩
  | rowz ad c t => exact ⟨⟨some ad, c, rfl⟩, by simp [maxSl]⟩
  | row b off c t xs vs h1 h2 h3 => exact ⟨⟨_, _, rfl⟩, h3⟩

theorem op_value {P : Program} {o : Oper} {next : Act → World → Prop} {Q : Exit → Act → World → Prop} {v : Value} {e : Eff} (hR : Rel tid w0 E F I s a w) (hs : e.sets = []) (hg : givenP e)
    (hrun : (execOp a.eval o).run P w = .ok (.value v) w) (hv : ValR w (Own F I) I v e.dst)
    (hn : ∀ I' a' w', Rel tid w0 E F I' (stepSt s o.dst e) a' w' → givenP e → next a' w') : o.wp P a w next Q := by
  refine wp_of_value hrun (hn I _ _ ?_ hg)
  have := hR.put o.dst hv
  unfold stepSt putL'
  rw [hs]
  exact this
end

section
variable {cx : Cx} {w0 w : World} {E F : Nat → Prop} {I : Im} {s : St} {a : Act} {o : Oper} {next : Act → World → Prop} {Q : Exit → Act → World → Prop} {e : Eff} {l : List Nat} {fr : Nat}

theorem op_move (x : Operand) (ho : o.op = .move x ∨ o.op = .assign x) (hR : Rel cx.tid w0 E F I s a w) (hrun : (effOp cx o fr (evalA cx.tid.glob s)).run s.hp = some (e, l))
    (hn : ∀ I' a' w', Rel cx.tid w0 E F I' (stepSt s o.dst e) a' w' → givenP e → next a' w') : o.wp cx.P a w next Q := by
  rcases ho with ho | ho <;> (
    simp only [effOp, ho] at hrun
    obtain ⟨rfl, rfl⟩ := run_ret hrun
    exact op_value hR rfl (by exact trivial) (v := a.eval x) (by simp [execOp, ho]) (hR.ev x) hn)

theorem op_pick (c x y : Operand) (ho : o.op = .pick c x y) (hR : Rel cx.tid w0 E F I s a w) (hrun : (effOp cx o fr (evalA cx.tid.glob s)).run s.hp = some (e, l))
    (hn : ∀ I' a' w', Rel cx.tid w0 E F I' (stepSt s o.dst e) a' w' → givenP e → next a' w') : o.wp cx.P a w next Q := by
  simp only [effOp, ho] at hrun
  have hc := hR.ev c
  split at hrun
  · rename_i t ht
    rw [ht] at hc
    obtain ⟨rfl, rfl⟩ := run_ret hrun
    refine op_value hR rfl (by exact trivial) (v := if t then a.eval x else a.eval y) (by simp [execOp, ho, hc.lit, asBool]) ?_ hn
    cases t
    · exact hR.ev y
    · exact hR.ev x
  · rename_i t ht
    rw [ht] at hc
    obtain ⟨b1, _, _, h1, h2, _⟩ := run_bind hrun
    obtain ⟨b2, _, _, h3, h4, _⟩ := run_bind h2
    obtain ⟨rfl, rfl⟩ := run_ret h4
    have e1 := (hR.ev x).asBool (run_of h1).1
    have e2 := (hR.ev y).asBool (run_of h3).1
    refine op_value hR rfl (by exact trivial) (v := .bool (if t then b1 else b2)) ?_ (.leaf (.bool _)) hn
    simp only [execOp, ho, hc.bool, asBool, e1, e2, Sem.run_pure, pure_bind]
    cases t <;> rfl
  · exact (run_fail hrun).elim

theorem eqGuard_free {P : Program} (op : BinOp) (t : TypeId) (x y : Operand) (u v : Value) (h1 : u ≠ .nilIface) (h2 : ∀ c, u ≠ .agg c) : (eqGuard op t x y u v).run P w = .ok () w := by
  cases u <;> first | exact absurd rfl h1 | exact absurd rfl (h2 _) | (cases op <;> rfl)

structure CxOK (cx : Cx) : Prop where
  ty : ∀ e t, cx.tyOf e = some t → e = cx.tid t ∧ ∃ i z, cx.P.info? e = some i ∧ i.size = width t ∧ i.zero = some z ∧ z.cells.size = width t ∧ 0 < i.bytes ∧ cx.P.underlying e ≠ none
  two : ∀ t, cx.tyOf t = some .attr → ∀ (op : BinOp) (x y : Operand) (a b c d : ByteArray) (w : World), (op = .eql ∨ op = .neq) →
    (do eqGuard op t x y (.agg #[.string a, .string b]) (.agg #[.string c, .string d]); binOp op t (.agg #[.string a, .string b]) (.agg #[.string c, .string d]) : Sem Value).run cx.P w =
      .ok (.bool (if op = .eql then eqS a c && eqS b d else !(eqS a c && eqS b d))) w
  bld : ∀ e, cx.bldT e = true → e = cx.tid .bld ∧ ∃ i, cx.P.info? e = some i ∧ i.zero = some (.agg #[.pointer none, .slice none 0 0])
  mixed : cx.P.follows .mixedOrders = true
  chk : cx.chk = true

theorem neq_slice_nil {P : Program} (w : World) (t e : TypeId) (a : Option Addr) (n c n' c' : Nat) (h : P.underlying t = some (.slice e)) :
    (binOp .neq t (.slice a n c) (.slice none n' c')).run P w = .ok (.bool (!a.isNone)) w := by
  simp only [binOp]
  simp [Op.equal, Op.maxDepth, Lib.run_equalIn_slice_nil w 9999 t e a n c n' c' h]
theorem tyEq_iff {t : Ty} {o : Option Ty} (h : tyEq t o = true) : o = some t := by
  cases o with
  | none => cases t <;> cases h
  | some u => cases t <;> cases u <;> first | rfl | cases h
theorem kEq_iff {k k' : IntKind} (h : kEq k k' = true) : k = k' := by cases k <;> cases k' <;> first | rfl | cases h

theorem binA_R (ok : CxOK cx) {O : Nat → Prop} (op : BinOp) (t : TypeId) (x y : Operand) {u v : Value} {ax ay r : AV} {p : Option Prop} (hx : ValR w O I u ax) (hy : ValR w O I v ay)
    (h : binA (tyEq .attr (cx.tyOf t)) (boolT cx.P t) (slT cx.P t) op ax ay = some (p, r)) (hp : ∀ q, p = some q → q) :
    ∃ z, (do eqGuard op t x y u v; binOp op t u v : Sem Value).run cx.P w = .ok z w ∧ ValR w O I z r := by
  unfold binA at h
  split at h
  · rename_i k a k' b
    cases hx.int
    cases hy.int
    have hg := eqGuard_free (P := cx.P) (w := w) op t x y (.int k a) (.int k' b) (by simp) (by simp)
    split at h
    · injection h with h; injection h with h1 h2; subst h1; subst h2
      have hb := hp _ rfl
      refine ⟨_, ?_, .leaf (.int _ _)⟩
      simp [hg, binOp, Op.shift, Int.not_lt.2 hb]
    · injection h with h; injection h with h1 h2; subst h1; subst h2
      have hb := hp _ rfl
      refine ⟨_, ?_, .leaf (.int _ _)⟩
      simp [hg, binOp, Op.shift, Int.not_lt.2 hb]
    · split at h
      · rename_i hk
        cases kEq_iff hk
        split at h <;> first
          | (cases h; done)
          | (injection h with h; injection h with h1 h2; subst h1; subst h2
             first
             | (have hb : b ≠ 0 := hp _ rfl
                refine ⟨.int k _, ?_, .leaf (.int _ _)⟩
                simp [hg, binOp, Op.intDiv, hb]
                done)
             | (refine ⟨.int k _, ?_, .leaf (.int _ _)⟩
                simp [hg, binOp, Op.intArith, Op.intBits]
                done)
             | (refine ⟨.bool _, ?_, .leaf (.bool _)⟩
                simp [hg, binOp, Op.intCmp]
                done))
      · cases h
  · rename_i a b
    obtain ⟨rfl, ha⟩ := hx.str
    obtain ⟨rfl, hb⟩ := hy.str
    have hg := eqGuard_free (P := cx.P) (w := w) op t x y (.string a) (.string b) (by simp) (by simp)
    split at h <;> first | (cases h; done) | (injection h with h; injection h with h1 h2; subst h1; subst h2)
    · have hb := hp _ rfl
      refine ⟨_, ?_, .leaf (.str _ (by rw [ByteArray.size_append]; exact hb))⟩
      have : ¬ (((a.size + b.size : Nat) : Int) > IntKind.i64.max) := by
        unfold maxSl at hb; simp only [IntKind.max, IntKind.signed, IntKind.bits]; simp; omega
      simp only [hg, binOp, Op.stringOp, Sem.run_bind, Result.andThen_ok, if_neg this, Sem.run_pure]
    · exact ⟨_, by simp only [hg, binOp, Op.stringOp, Sem.run_bind, Result.andThen_ok, Sem.run_pure]; rfl, .leaf (.bool _)⟩
    · exact ⟨_, by simp only [hg, binOp, Op.stringOp, Sem.run_bind, Result.andThen_ok, Sem.run_pure]; rfl, .leaf (.bool _)⟩
  · rename_i a b c d
    split at h
    · rename_i h2
      have ht := tyEq_iff h2
      obtain ⟨cs, rfl, hc⟩ := hx
      obtain ⟨ds, rfl, hd⟩ := hy
      cases hc with | cons h1 hc => cases hc with | cons h2 hc => cases hc; cases hd with | cons h3 hd => cases hd with | cons h4 hd =>
      cases hd
      cases h1; cases h2; cases h3; cases h4
      split at h <;> first | (cases h; done) | (injection h with h; injection h with h1 h2; subst h1; subst h2)
      · exact ⟨_, ok.two t ht .eql x y a b c d w (.inl rfl), .leaf (.bool _)⟩
      · exact ⟨_, ok.two t ht .neq x y a b c d w (.inr rfl), .leaf (.bool _)⟩
    · cases h
  · rename_i ty x0 xs0
    split at h
    · rename_i hs
      obtain ⟨el, hu⟩ : ∃ el, cx.P.underlying t = some (.slice el) := by
        unfold slT at hs
        split at hs
        · rename_i el hel; exact ⟨el, hel⟩
        · cases hs
      cases hy.nil
      cases (show LeafR w O I u _ from hx) with
      | row b off c _ _ vs =>
        have hg := eqGuard_free (P := cx.P) (w := w) op t x y (.slice (some ⟨b, off, none⟩) (x0 :: xs0).length c) (.slice none 0 0) (by simp) (by simp)
        split at h <;> first | (cases h; done) | (injection h with h; injection h with h1 h2; subst h1; subst h2)
        · exact ⟨_, by simp only [Sem.run_bind, hg, Result.andThen_ok, Lib.run_eql_slice_nil w t el _ _ _ 0 0 hu]; rfl, .leaf (.lit _)⟩
        · exact ⟨_, by simp only [Sem.run_bind, hg, Result.andThen_ok, neq_slice_nil w t el _ _ _ 0 0 hu]; rfl, .leaf (.lit _)⟩
    · cases h
  · split at h
    · rename_i hs
      obtain ⟨el, hu⟩ : ∃ el, cx.P.underlying t = some (.slice el) := by
        unfold slT at hs
        split at hs
        · rename_i el hel; exact ⟨el, hel⟩
        · cases hs
      cases hy.nil
      cases (show LeafR w O I u .zrow from hx) with
      | zrow ad c =>
        have hg := eqGuard_free (P := cx.P) (w := w) op t x y (.slice (some ad) 0 c) (.slice none 0 0) (by simp) (by simp)
        split at h <;> first | (cases h; done) | (injection h with h; injection h with h1 h2; subst h1; subst h2)
        · exact ⟨_, by simp only [Sem.run_bind, hg, Result.andThen_ok, Lib.run_eql_slice_nil w t el _ _ _ 0 0 hu]; rfl, .leaf (.lit _)⟩
        · exact ⟨_, by simp only [Sem.run_bind, hg, Result.andThen_ok, neq_slice_nil w t el _ _ _ 0 0 hu]; rfl, .leaf (.lit _)⟩
    · cases h
  · split at h
    · rename_i hs
      obtain ⟨el, hu⟩ : ∃ el, cx.P.underlying t = some (.slice el) := by
        unfold slT at hs
        split at hs
        · rename_i el hel; exact ⟨el, hel⟩
        · cases hs
      cases hx.nil
      cases hy.nil
      have hg := eqGuard_free (P := cx.P) (w := w) op t x y (.slice none 0 0) (.slice none 0 0) (by simp) (by simp)
      split at h <;> first | (cases h; done) | (injection h with h; injection h with h1 h2; subst h1; subst h2)
      · exact ⟨_, by simp only [Sem.run_bind, hg, Result.andThen_ok, Lib.run_eql_slice_nil w t el _ _ _ 0 0 hu]; rfl, .leaf (.lit _)⟩
      · exact ⟨_, by simp only [Sem.run_bind, hg, Result.andThen_ok, neq_slice_nil w t el _ _ _ 0 0 hu]; rfl, .leaf (.lit _)⟩
    · cases h
  · split at h
    · cases h
    · rename_i hb
      have hu : cx.P.underlying t = some .bool := by
        unfold boolT at hb
        split at hb
        · assumption
        · simp at hb
      simp only [Option.bind_eq_some_iff] at h
      obtain ⟨a, ha, b, hb', h⟩ := h
      cases hx.asBool ha
      cases hy.asBool hb'
      have hg := eqGuard_free (P := cx.P) (w := w) op t x y (.bool a) (.bool b) (by simp) (by simp)
      split at h <;> first | (cases h; done) | (injection h with h; injection h with h1 h2; subst h1; subst h2)
      · exact ⟨.bool _, by simp [hg, binOp, run_equal_bool w t a b hu], .leaf (.bool _)⟩
      · exact ⟨.bool _, by simp [hg, binOp, run_equal_bool w t a b hu], .leaf (.bool _)⟩

theorem op_binOp (ok : CxOK cx) (op : BinOp) (t : TypeId) (x y : Operand) (ty : TypeId) (ho : o.op = .binOp op t x y ty) (hR : Rel cx.tid w0 E F I s a w) (hrun : (effOp cx o fr (evalA cx.tid.glob s)).run s.hp = some (e, l)) (hp : preP e)
    (hn : ∀ I' a' w', Rel cx.tid w0 E F I' (stepSt s o.dst e) a' w' → givenP e → next a' w') : o.wp cx.P a w next Q := by
  simp only [effOp, ho] at hrun
  obtain ⟨⟨p, r⟩, _, _, h1, h2, _⟩ := run_bind hrun
  obtain ⟨rfl, rfl⟩ := run_ret h2
  obtain ⟨z, hz, hv⟩ := binA_R ok op t x y (hR.ev x) (hR.ev y) (run_of h1).1 (fun q hq => by subst hq; exact hp)
  refine op_value hR rfl (by exact trivial) (v := z) ?_ hv hn
  simp only [execOp, ho]
  rw [Sem.run_bind, hz]
  rfl

theorem op_unOp (op : UnOp) (t : TypeId) (x : Operand) (ho : o.op = .unOp op t x) (hR : Rel cx.tid w0 E F I s a w) (hrun : (effOp cx o fr (evalA cx.tid.glob s)).run s.hp = some (e, l))
    (hn : ∀ I' a' w', Rel cx.tid w0 E F I' (stepSt s o.dst e) a' w' → givenP e → next a' w') : o.wp cx.P a w next Q := by
  simp only [effOp, ho] at hrun
  obtain ⟨r, _, _, h1, h2, _⟩ := run_bind hrun
  obtain ⟨rfl, rfl⟩ := run_ret h2
  have h := (run_of h1).1
  have hx := hR.ev x
  generalize evalA cx.tid.glob s x = ax at h hx
  unfold unA at h
  split at h <;> first | (cases h; done) | (injection h with h; subst h)
  · exact op_value hR rfl (by exact trivial) (v := .int _ _) (by simp [execOp, ho, hx.int, Op.unary, Op.intArith]) (.leaf (.int _ _)) hn
  · exact op_value hR rfl (by exact trivial) (v := .int _ _) (by simp [execOp, ho, hx.int, Op.unary, Op.intBits]) (.leaf (.int _ _)) hn
  · exact op_value hR rfl (by exact trivial) (v := .bool _) (by simp [execOp, ho, hx.lit, Op.unary]) (.leaf (.lit _)) hn
  · exact op_value hR rfl (by exact trivial) (v := .bool _) (by simp [execOp, ho, hx.bool, Op.unary]) (.leaf (.bool _)) hn

theorem op_extract (t : Operand) (i : Nat) (ho : o.op = .extract t i) (hR : Rel cx.tid w0 E F I s a w) (hrun : (effOp cx o fr (evalA cx.tid.glob s)).run s.hp = some (e, l))
    (hn : ∀ I' a' w', Rel cx.tid w0 E F I' (stepSt s o.dst e) a' w' → givenP e → next a' w') : o.wp cx.P a w next Q := by
  simp only [effOp, ho] at hrun
  have ht := hR.ev t
  split at hrun
  · rename_i vs hvs
    rw [hvs] at ht
    obtain ⟨r, _, _, h1, h2, _⟩ := run_bind hrun
    obtain ⟨rfl, rfl⟩ := run_ret h2
    have h := (run_of h1).1
    obtain ⟨us, hu, hall⟩ := ht
    obtain ⟨u, hu1, hu2⟩ := hall.get h
    refine op_value hR rfl (by exact trivial) (v := u) ?_ (.of1 hu2) hn
    simp [execOp, ho, hu, Instr.extract, hu1]
  · exact (run_fail hrun).elim

theorem op_makeFunc (fn : Fn) (first caps : Array Operand) (ho : o.op = .makeFunc fn first caps) (hR : Rel cx.tid w0 E F I s a w) (hrun : (effOp cx o fr (evalA cx.tid.glob s)).run s.hp = some (e, l))
    (hn : ∀ I' a' w', Rel cx.tid w0 E F I' (stepSt s o.dst e) a' w' → givenP e → next a' w') : o.wp cx.P a w next Q := by
  cases fn with
  | func f =>
    simp only [effOp, ho] at hrun
    split at hrun
    · rename_i hc
      simp only [Bool.and_eq_true] at hc
      obtain ⟨rfl, rfl⟩ := run_ret hrun
      have hf : first = #[] := by simpa [Array.isEmpty] using hc.1
      refine op_value hR rfl (by exact trivial) (v := .func (.func f) #[] (caps.toList.map a.eval).toArray) ?_ (.leaf (.fn f _ _ (by simp) ?_)) hn
      · have : caps.map a.eval = (caps.toList.map a.eval).toArray := Array.ext' (by simp)
        simp only [execOp, ho, Instr.makeFunc, hf, this, pure_bind, Sem.run_pure, Array.map_empty]
      · have hl := hc.2
        generalize caps.toList = cl at hl
        clear hc hrun hn
        intro j u x hu hx
        simp only [List.getElem?_map, Option.map_eq_some_iff] at hu hx
        obtain ⟨c, hc, rfl⟩ := hu
        obtain ⟨c', hc', rfl⟩ := hx
        rw [hc] at hc'
        injection hc' with hc'
        subst hc'
        have hlf : isLeaf (evalA cx.tid.glob s c) = true := by
          clear hf
          induction cl generalizing j with
          | nil => simp at hc
          | cons b cl ih =>
            simp only [List.map_cons, allLeaf, Bool.and_eq_true] at hl
            cases j with
            | zero => simp at hc; subst hc; exact hl.1
            | succ j => exact ih hl.2 j (by simpa using hc)
        exact (hR.ev c).leaf' (fun fs h => by rw [h] at hlf; cases hlf) (fun vs h => by rw [h] at hlf; cases hlf) (fun h => by rw [h] at hlf; cases hlf)
    · exact (run_fail hrun).elim
  | _ => simp only [effOp, ho] at hrun; exact (run_fail hrun).elim

theorem op_nilCheck (x : Operand) (ho : o.op = .nilCheck x) (hR : Rel cx.tid w0 E F I s a w) (hrun : (effOp cx o fr (evalA cx.tid.glob s)).run s.hp = some (e, l))
    (hn : ∀ I' a' w', Rel cx.tid w0 E F I' (stepSt s o.dst e) a' w' → givenP e → next a' w') : o.wp cx.P a w next Q := by
  simp only [effOp, ho] at hrun
  have hx := hR.ev x
  split at hrun
  · rename_i id off hid
    rw [hid] at hx
    obtain ⟨l', hrun, _⟩ := run_ask hrun
    have hp := hR.hp id
    split at hrun
    · rename_i cells hb
      rw [hb] at hp
      obtain ⟨l0, hl0, g, cs, ty, rfl, _⟩ := hp
      obtain ⟨rfl, rfl⟩ := run_ret hrun
      have hv : a.eval x = .pointer (some ⟨g, off, none⟩) := by
        exact hx.ptr.2.2.1 g hl0
      exact op_value hR rfl (by exact trivial) (v := a.eval x) (by simp [execOp, ho, hv]) hx hn
    · rename_i sb hb
      rw [hb] at hp
      obtain ⟨l0, hl0, g, v, p, ty, vs, rfl, _⟩ := hp
      split at hrun
      · rename_i h0
        obtain ⟨rfl, rfl⟩ := run_ret hrun
        have hv : a.eval x = .pointer (some ⟨g, 0, none⟩) := by
          exact hx.ptr.2.2.2 g _ hl0 (Nat.eq_of_beq_eq_true h0)
        exact op_value hR rfl (by exact trivial) (v := a.eval x) (by simp [execOp, ho, hv]) hx hn
      · exact (run_fail hrun).elim
    · exact (run_fail hrun).elim
  · rename_i t xs i off hid
    rw [hid] at hx
    obtain ⟨rfl, rfl⟩ := run_ret hrun
    obtain ⟨_, _, b, base, c, hv, _⟩ := hx.pin
    exact op_value hR rfl (by exact trivial) (v := a.eval x) (by simp [execOp, ho, hv]) hx hn
  · rename_i id n i off hid
    rw [hid] at hx
    obtain ⟨l', hrun, _⟩ := run_ask hrun
    have hp := hR.hp id
    split at hrun
    · rename_i m t xs hb
      rw [hb] at hp
      obtain ⟨l0, hl0, v, vs, rfl, _⟩ := hp
      split at hrun
      · rename_i hm
        obtain ⟨rfl, rfl⟩ := run_ret hrun
        obtain ⟨_, g, k, c, _, _, hv⟩ := (hx.optr.2.2 _ _ _ hl0).2 (Nat.eq_of_beq_eq_true hm).symm
        exact op_value hR rfl (by exact trivial) (v := a.eval x) (by simp [execOp, ho, hv]) hx hn
      · exact (run_fail hrun).elim
    · exact (run_fail hrun).elim
  · rename_i f caps hid
    rw [hid] at hx
    obtain ⟨rfl, rfl⟩ := run_ret hrun
    obtain ⟨cs, hv, _⟩ := hx.fn
    exact op_value hR rfl (by exact trivial) (v := a.eval x) (by simp [execOp, ho, hv]) hx hn
  · exact (run_fail hrun).elim

theorem op_index (t : TypeId) (x i : Operand) (ho : o.op = .index t x i) (hR : Rel cx.tid w0 E F I s a w) (hrun : (effOp cx o fr (evalA cx.tid.glob s)).run s.hp = some (e, l)) (hp : preP e)
    (hn : ∀ I' a' w', Rel cx.tid w0 E F I' (stepSt s o.dst e) a' w' → givenP e → next a' w') : o.wp cx.P a w next Q := by
  simp only [effOp, ho] at hrun
  have hi := hR.ev i
  have hx := hR.ev x
  split at hrun
  · rename_i k n sx h1 h2
    rw [h1] at hi
    rw [h2] at hx
    obtain ⟨hs, hm⟩ := hx.str
    split at hrun
    · rename_i hu
      obtain ⟨rfl, rfl⟩ := run_ret hrun
      have hb : 0 ≤ n ∧ n < sx.size := hp
      have hlt : n.toNat < sx.size := by omega
      refine op_value hR rfl (by exact trivial) (v := .int .u8 ((sx.get! n.toNat).toNat : Int)) ?_ (.leaf (.int _ _)) hn
      have he : sx[n.toNat]? = some (sx.get! n.toNat) := by
        have : sx.get! n.toNat = sx[n.toNat] := by
          cases sx with | mk d => simp [ByteArray.get!, ByteArray.getElem_eq_getElem_data] at *; rw [getElem!_pos d n.toNat hlt]
        rw [this]; simp [getElem?_pos, hlt]
      simp only [execOp, ho, hi.int, hs, Instr.index, asIntOf, Sem.run_bind, Sem.run_pure, Result.andThen_ok, run_underlying hu, if_pos hb.1, he]
    · exact (run_fail hrun).elim
  · exact (run_fail hrun).elim
end
end Go.Proofs.YtnhipiedjekkpaaGreatDoor.AX
end
section
namespace Go.Proofs.YtnhipiedjekkpaaGreatDoor.AX
open Go Go.RowKit

section
variable {P : Program} {w : World} {O : Nat → Prop} {I : Im}
theorem cells_R {v : Value} {x : AV} {as : List AV} (h : ValR w O I v x) (hx : cellsA x = some as) : All2 (LeafR w O I) v.cells.toList as := by
  cases x with
  | agg fs =>
    obtain ⟨cs, rfl, hc⟩ := h
    injection hx with hx; subst hx
    simpa [Value.cells] using hc
  | tup _ => cases hx
  | any => cases hx
  | _ =>
    injection hx with hx; subst hx
    have hl : LeafR w O I v _ := h
    have : v.cells = #[v] := by
      have h1 := hl.one
      cases v <;> first | rfl | cases h1
    rw [this]
    exact .cons hl .nil
theorem isAggT_run {t : TypeId} {b : Bool} (h : isAggT P t = some b) : (isAgg t).run P w = .ok b w := by
  unfold isAggT at h
  unfold isAgg
  split at h <;> first | (cases h; done) | (rename_i hu; injection h with h; subst h; rw [Sem.run_bind, run_underlying hu]; simp) | (rename_i hu; injection h with h; subst h; rename_i d h1 h2; rw [Sem.run_bind, run_underlying hu]; cases d <;> simp_all)
theorem sizeT_info {t : TypeId} {n : Nat} (h : sizeT P t = some n) : ∃ i, P.info? t = some i ∧ i.size = n := by
  unfold sizeT at h
  simpa [Option.map_eq_some_iff] using h
theorem sizeT_run {t : TypeId} {n : Nat} (h : sizeT P t = some n) : (sizeOf t).run P w = .ok n w := by
  obtain ⟨i, hi, rfl⟩ := sizeT_info h
  simp [sizeOf, typeInfo, hi]
theorem add_none (b o n : Nat) : (⟨b, o, none⟩ : Addr).add n = ⟨b, o + n, none⟩ := by unfold Addr.add; split <;> simp_all

theorem partA_R {t : TypeId} {vs : List Value} {cs : List AV} {off : Nat} {r : AV} (h : All2 (LeafR w O I) vs cs) (hp : partA P t cs off = some r) :
    ∃ v, (part t vs.toArray off).run P w = .ok v w ∧ ValR w O I v r := by
  unfold partA at hp
  simp only [Option.bind_eq_some_iff] at hp
  obtain ⟨b, hb, hp⟩ := hp
  have hag := isAggT_run (w := w) hb
  cases b with
  | true =>
    simp only [Option.bind_eq_some_iff] at hp
    obtain ⟨n, hn, hp⟩ := hp
    split at hp
    · injection hp with hp; subst hp
      refine ⟨.agg ((vs.drop off).take n).toArray, ?_, ⟨_, rfl, (h.drop off).take n⟩⟩
      unfold part
      rw [Sem.run_bind, hag]
      simp only [Result.andThen_ok, if_true]
      rw [Sem.run_bind, sizeT_run hn]
      simp only [Result.andThen_ok, Sem.run_pure]
      congr 2
      apply Array.ext'
      simp [Array.toList_extract, List.extract_eq_take_drop]
    · cases hp
  | false =>
    obtain ⟨v, hv, hr⟩ := h.get hp
    refine ⟨v, ?_, .leaf hr⟩
    unfold part
    rw [Sem.run_bind, hag]
    simp only [Result.andThen_ok, Bool.false_eq_true, if_false]
    have : vs.toArray[off]? = some v := by simpa using hv
    simp [this]

theorem load_R {t : TypeId} {vs : List Value} {cs : List AV} {b base off : Nat} {r : AV} (h : All2 (LeafR w O I) vs cs) (hc : ∀ (j : Nat) (u : Value), vs[j]? = some u → w.cell? ⟨b, base + j, none⟩ = some u)
    (hp : partA P t cs off = some r) : ∃ v, (loadVar t ⟨b, base + off, none⟩).run P w = .ok v w ∧ ValR w O I v r := by
  unfold partA at hp
  simp only [Option.bind_eq_some_iff] at hp
  obtain ⟨d, hb, hp⟩ := hp
  have hag := isAggT_run (w := w) hb
  cases d with
  | true =>
    simp only [Option.bind_eq_some_iff] at hp
    obtain ⟨n, hn, hp⟩ := hp
    split at hp
    · rename_i hle
      have hle := Nat.le_of_ble_eq_true hle
      injection hp with hp; subst hp
      refine ⟨.agg ((vs.drop off).take n).toArray, ?_, ⟨_, rfl, (h.drop off).take n⟩⟩
      unfold loadVar
      rw [Sem.run_bind, hag]
      simp only [Result.andThen_ok, if_true]
      rw [Sem.run_bind, sizeT_run hn]
      simp only [Result.andThen_ok]
      have hlen : ((vs.drop off).take n).length = n := by
        have := h.length
        rw [List.length_take, List.length_drop]; omega
      have := run_loadCells_list (P := P) w ⟨b, base + off, none⟩ ((vs.drop off).take n) (fun j u hu => by
        rw [add_none]
        have hj : vs[off + j]? = some u := by
          rw [List.getElem?_take] at hu
          split at hu
          · simpa [List.getElem?_drop] using hu
          · cases hu
        rw [Nat.add_assoc]
        exact hc _ _ hj)
      rw [hlen] at this
      rw [Sem.run_bind, this]
      simp
    · cases hp
  | false =>
    obtain ⟨v, hv, hr⟩ := h.get hp
    refine ⟨v, ?_, .leaf hr⟩
    unfold loadVar
    rw [Sem.run_bind, hag]
    simp only [Result.andThen_ok, Bool.false_eq_true, if_false]
    simp [run_load, hc _ _ hv]

theorem flat_at {t : Ty} {xs : List (den t)} {i : Nat} (hi : i < xs.length) : ((cellsOf t xs).drop (i * width t)).take (width t) = leaves t xs[i] := by
  induction xs generalizing i with
  | nil => simp at hi
  | cons x xs ih =>
    unfold cellsOf at *
    simp only [List.flatMap_cons]
    cases i with
    | zero => simp [List.take_append, leaves_length]
    | succ i =>
      have : (i + 1) * width t = width t + i * width t := by rw [Nat.add_mul]; omega
      rw [this, ← List.drop_drop, List.drop_append_of_le_length (by rw [leaves_length]; omega)]
      have e : (leaves t x).drop (width t) = [] := by rw [← leaves_length t x]; exact List.drop_length
      rw [e, List.nil_append]
      simpa using ih (by simpa using hi)
theorem cellsOf_length {t : Ty} (xs : List (den t)) : (cellsOf t xs).length = xs.length * width t := by
  induction xs with
  | nil => simp [cellsOf]
  | cons x xs ih => unfold cellsOf at *; simp [List.flatMap_cons, leaves_length, ih, Nat.add_mul]; omega
theorem rd_eq {t : Ty} {xs : List (den t)} {i : Int} (hi : i.toNat < xs.length) : rd t xs i = xs[i.toNat] := by
  unfold rd
  rw [List.getD_eq_getElem?_getD, List.getElem?_eq_getElem hi]; rfl

theorem LeafR.row_cells {b off c : Nat} {t : Ty} {xs : List (den t)} (h : LeafR w O I (.slice (some ⟨b, off, none⟩) xs.length c) (.row t xs)) :
    ∃ vs : List Value, (∀ (j : Nat) (u : Value), vs[j]? = some u → w.cell? ⟨b, off + j, none⟩ = some u) ∧ All2 (LeafR w O I) vs (cellsOf t xs) := by
  generalize hv : Value.slice (some ⟨b, off, none⟩) xs.length c = v at h
  cases h with
  | row0 t => cases hv
  | rowz ad c' t => exact ⟨[], fun j u hu => by simp at hu, .nil⟩
  | row b' off' c' t xs vs h1 h2 h3 h4 h5 h6 =>
    injection hv with e1 e2 e3
    injection e1 with e1
    injection e1 with e1 e2
    subst e1; subst e2
    exact ⟨vs, h4, .of h5 h6⟩
end

section
variable {cx : Cx} {w0 w : World} {E F : Nat → Prop} {I : Im} {s : St} {a : Act} {o : Oper} {next : Act → World → Prop} {Q : Exit → Act → World → Prop} {e : Eff} {l : List Nat} {fr : Nat}

theorem op_load (t : TypeId) (x : Operand) (ho : o.op = .load t x) (hR : Rel cx.tid w0 E F I s a w) (hrun : (effOp cx o fr (evalA cx.tid.glob s)).run s.hp = some (e, l))
    (hn : ∀ I' a' w', Rel cx.tid w0 E F I' (stepSt s o.dst e) a' w' → givenP e → next a' w') : o.wp cx.P a w next Q := by
  simp only [effOp, ho] at hrun
  have hx := hR.ev x
  have fin : ∀ (b base off : Nat) (vs : List Value) (cs : List AV) (r : AV), a.eval x = .pointer (some ⟨b, base + off, none⟩) → All2 (LeafR w (Own F I) I) vs cs →
      (∀ (j : Nat) (u : Value), vs[j]? = some u → w.cell? ⟨b, base + j, none⟩ = some u) → partA cx.P t cs off = some r → e = { dst := r } → o.wp cx.P a w next Q := by
    intro b base off vs cs r hv hall hc hp he
    subst he
    obtain ⟨v, h1, h2⟩ := load_R hall hc hp
    exact op_value hR rfl (by exact trivial) (v := v) (by simp [execOp, ho, hv, Instr.loadAt, Instr.sureAddr, h1]) h2 hn
  split at hrun
  · rename_i id off hid
    rw [hid] at hx
    obtain ⟨l', hrun, _⟩ := run_ask hrun
    have hp := hR.hp id
    split at hrun
    · rename_i cells hb
      rw [hb] at hp
      obtain ⟨l0, hl0, g, cs, ty, rfl, hg, hall⟩ := hp
      obtain ⟨r, _, _, h1, h2, _⟩ := run_bind hrun
      obtain ⟨h2, _⟩ := run_ret h2
      refine fin g 0 off cs.toList cells r (by rw [hx.ptr.2.2.1 g hl0, Nat.zero_add]) hall (fun j u hu => ?_) (run_of h1).1 h2.symm
      rw [Nat.zero_add, cell_of_row w g j cs ty _ hg]; simpa using hu
    · exact (run_fail hrun).elim
  · rename_i ty xs i off hid
    rw [hid] at hx
    obtain ⟨r, _, _, h1, h2, _⟩ := run_bind hrun
    obtain ⟨h2, _⟩ := run_ret h2
    obtain ⟨h0, hi, b, base, c, hv, hrow⟩ := hx.pin
    obtain ⟨vs, hc, hall⟩ := hrow.row_cells
    have hp := (run_of h1).1
    rw [rd_eq hi, ← flat_at hi] at hp
    refine fin b (base + i.toNat * width ty) off _ _ r (by rw [hv]; congr 3; omega) ((hall.drop _).take _) (fun j u hu => ?_) hp h2.symm
    rw [List.getElem?_take] at hu
    split at hu
    · rw [List.getElem?_drop] at hu
      rw [Nat.add_assoc]; exact hc _ _ hu
    · cases hu
  · rename_i id n i off hid
    rw [hid] at hx
    obtain ⟨l', hrun, _⟩ := run_ask hrun
    have hp := hR.hp id
    split at hrun
    · rename_i m ty xs hb
      rw [hb] at hp
      obtain ⟨l0, hl0, v, vs, rfl, hmx, hown, hall⟩ := hp
      split at hrun
      · rename_i hm
        obtain ⟨r, _, _, h1, h2, _⟩ := run_bind hrun
        obtain ⟨h2, _⟩ := run_ret h2
        obtain ⟨h0, g, k, c, hik, hvv, hv⟩ := (hx.optr.2.2 _ _ _ hl0).2 (Nat.eq_of_beq_eq_true hm).symm
        have hp := (run_of h1).1
        subst hvv
        have hi : i.toNat < xs.length := by
          rcases hown.2 with ⟨h, _⟩ | ⟨_, _, _, h, _⟩
          · cases h
          · injection h with _ h _; omega
        rw [rd_eq hi, ← flat_at hi] at hp
        refine fin g (i.toNat * width ty) off _ _ r hv ((hall.drop _).take _) (fun j u hu => ?_) hp h2.symm
        rw [List.getElem?_take] at hu
        split at hu
        · rw [List.getElem?_drop] at hu
          have := hown.cells (g := g) rfl _ _ hu
          rw [add_none] at this
          simpa using this
        · cases hu
      · exact (run_fail hrun).elim
    · exact (run_fail hrun).elim
  · exact (run_fail hrun).elim

theorem structOf_u {P : Program} {t : TypeId} {fs : Array Field} (h : structOf P t = some fs) : P.underlying t = some (.struct fs) := by
  unfold structOf at h
  split at h
  · injection h with h; subst h; assumption
  · cases h
theorem sliceOf_u {P : Program} {t : TypeId} {e : TypeId} (h : sliceOf P t = some e) : P.underlying t = some (.slice e) := by
  unfold sliceOf at h
  split at h
  · injection h with h; subst h; assumption
  · cases h
theorem arrayOf_u {P : Program} {t : TypeId} {n : Nat} {e : TypeId} (h : arrayOf P t = some (n, e)) : P.underlying t = some (.array n e) := by
  unfold arrayOf at h
  split at h
  · injection h with h; injection h with h1 h2; subst h1; subst h2; assumption
  · cases h

theorem op_field (t : TypeId) (x : Operand) (f : Nat) (ho : o.op = .field t x f) (hR : Rel cx.tid w0 E F I s a w) (hrun : (effOp cx o fr (evalA cx.tid.glob s)).run s.hp = some (e, l))
    (hn : ∀ I' a' w', Rel cx.tid w0 E F I' (stepSt s o.dst e) a' w' → givenP e → next a' w') : o.wp cx.P a w next Q := by
  simp only [effOp, ho] at hrun
  have hx := hR.ev x
  obtain ⟨fd, _, _, h1, h2, _⟩ := run_bind hrun
  have h1 := (run_of h1).1
  simp only [Option.bind_eq_some_iff] at h1
  obtain ⟨fs, hfs, hf⟩ := h1
  split at h2
  · rename_i cs hcs
    rw [hcs] at hx
    obtain ⟨vs, hv, hall⟩ := hx
    obtain ⟨r, _, _, h3, h4, _⟩ := run_bind h2
    obtain ⟨rfl, rfl⟩ := run_ret h4
    obtain ⟨v, h5, h6⟩ := partA_R (P := cx.P) (w := w) hall (run_of h3).1
    refine op_value hR rfl (by exact trivial) (v := v) ?_ h6 hn
    simp [execOp, ho, hv, Instr.field, run_underlying (structOf_u hfs), hf, asAgg, h5]
  · exact (run_fail h2).elim

theorem run_fieldPlace {P : Program} {b o : Nat} {f : Field} {n : Nat} (hn : sizeT P f.type = some n) (h : ¬ n = 0) : (fieldPlace ⟨b, o, none⟩ f).run P w = .ok ⟨b, o + f.offset, none⟩ w := by
  unfold fieldPlace
  rw [Sem.run_bind, sizeT_run hn]
  simp [h, add_none]

theorem op_fieldAddr (t : TypeId) (x : Operand) (f : Nat) (ho : o.op = .fieldAddr t x f) (hR : Rel cx.tid w0 E F I s a w) (hrun : (effOp cx o fr (evalA cx.tid.glob s)).run s.hp = some (e, l))
    (hn : ∀ I' a' w', Rel cx.tid w0 E F I' (stepSt s o.dst e) a' w' → givenP e → next a' w') : o.wp cx.P a w next Q := by
  simp only [effOp, ho] at hrun
  have hx := hR.ev x
  obtain ⟨fd, _, _, h1, h2, _⟩ := run_bind hrun
  have h1 := (run_of h1).1
  simp only [Option.bind_eq_some_iff] at h1
  obtain ⟨fs, hfs, hf⟩ := h1
  obtain ⟨n, _, _, h3, h4, _⟩ := run_bind h2
  have h3 := (run_of h3).1
  split at h4
  · exact (run_fail h4).elim
  · rename_i hne
    have hne : ¬ n = 0 := fun h => hne (by rw [h]; rfl)
    have fin : ∀ (b off : Nat) (r : AV), a.eval x = .pointer (some ⟨b, off, none⟩) → ValR w (Own F I) I (.pointer (some ⟨b, off + fd.offset, none⟩)) r → e = { dst := r } → o.wp cx.P a w next Q := by
      intro b off r hv hr he
      subst he
      refine op_value hR rfl (by exact trivial) (v := .pointer (some ⟨b, off + fd.offset, none⟩)) ?_ hr hn
      simp [execOp, ho, hv, Instr.fieldAt, run_underlying (structOf_u hfs), hf, Instr.sureAddr, run_fieldPlace h3 hne]
    obtain ⟨rr, _, _, h4, h5, _⟩ := run_bind h4
    obtain ⟨h5, _⟩ := run_ret h5
    generalize evalA cx.tid.glob s x = ax at h4 hx
    cases ax with
    | ptr id off =>
      obtain ⟨l', h4, _⟩ := run_ask h4
      have hp := hR.hp id
      split at h4
      · rename_i cells hb
        rw [hb] at hp
        obtain ⟨l0, hl0, g, cs, ty, rfl, hg, hall⟩ := hp
        obtain ⟨rfl, _⟩ := run_ret h4
        refine fin g off _ (hx.ptr.2.2.1 g hl0) (.leaf (.ptr _ _ _ hx.ptr.1 rfl (fun b hb => ?_) (fun b u hb _ => ?_))) h5.symm
        · rw [hl0] at hb; injection hb with hb; injection hb with hb; subst hb; rfl
        · rw [hl0] at hb; injection hb with hb; cases hb
      · exact (run_fail h4).elim
    | pin ty xs i off =>
      obtain ⟨rfl, _⟩ := run_ret h4
      obtain ⟨h0, hi, b, base, c, hv, hrow⟩ := hx.pin
      refine fin b _ _ hv (.leaf ?_) h5.symm
      have : base + (i.toNat * width ty + off) + fd.offset = base + (i.toNat * width ty + (off + fd.offset)) := by omega
      rw [this]
      exact .pin b base c ty xs i _ h0 hi hrow
    | optr id n' i off =>
      obtain ⟨l', h4, _⟩ := run_ask h4
      have hp := hR.hp id
      split at h4
      · rename_i m ty xs hb
        rw [hb] at hp
        obtain ⟨l0, hl0, v, vs, rfl, hmx, hown, hall⟩ := hp
        split at h4
        · rename_i hm
          obtain ⟨rfl, _⟩ := run_ret h4
          have hmm := (Nat.eq_of_beq_eq_true hm).symm
          obtain ⟨h0, g, k, c, hik, hvv, hv⟩ := (hx.optr.2.2 _ _ _ hl0).2 hmm
          refine fin g _ _ hv (.leaf (.optr _ _ _ _ _ hx.optr.1 rfl fun m' t' u' hl' => ?_)) h5.symm
          rw [hl0] at hl'
          injection hl' with hl'; injection hl' with e1 e2 e3
          subst e1; subst e2; subst e3
          exact ⟨by omega, fun _ => ⟨h0, g, k, c, hik, hvv, by congr 3; omega⟩⟩
        · exact (run_fail h4).elim
      · exact (run_fail h4).elim
    | _ => exact (run_fail h4).elim
end
end Go.Proofs.YtnhipiedjekkpaaGreatDoor.AX
end
section
namespace Go.Proofs.YtnhipiedjekkpaaGreatDoor.AX
open Go Go.RowKit

section
variable {P : Program} {w : World} {O : Nat → Prop} {I : Im}
theorem foldSet (off : Nat) : ∀ (vs : List Value) (k : Nat) (cs : Array Value), off + k + vs.length ≤ cs.size →
    ((vs.zipIdx k).foldl (fun cs (p : Value × Nat) => cs.setIfInBounds (off + p.2) p.1) cs).toList = cs.toList.take (off + k) ++ vs ++ cs.toList.drop (off + k + vs.length)
  | [], k, cs, _ => by simp
  | v :: vs, k, cs, h => by
    have h' : off + k < cs.size := by simp at h; omega
    simp only [List.zipIdx_cons, List.foldl_cons]
    rw [foldSet off vs (k + 1) _ (by simp at h ⊢; omega)]
    have e := list_seg_step cs.toList (off + k) v vs (by simp at h ⊢; omega)
    simpa [Array.toList_setIfInBounds, Nat.add_assoc] using e
theorem fill_step (off : Nat) (v : Value) (cs : Array Value) (h : off + v.cells.size ≤ cs.size) :
    (v.cells.zipIdx.foldl (fun cs (p : Value × Nat) => cs.setIfInBounds (off + p.2) p.1) cs).toList = cs.toList.take off ++ v.cells.toList ++ cs.toList.drop (off + v.cells.size) := by
  rw [← Array.foldl_toList, Array.toList_zipIdx]
  have := foldSet off v.cells.toList 0 cs (by simpa using h)
  simpa using this
theorem fillA_R (place : Nat → Option (Nat × Nat)) : ∀ (parts : List (Nat × Value)) (parts' : List (Nat × AV)) (cells : Array Value) (cs cs' : List AV), All2 (fun p q => p.1 = q.1 ∧ ValR w O I p.2 q.2) parts parts' →
    All2 (LeafR w O I) cells.toList cs → fillA place cs parts' = some cs' → ∃ cells' : Array Value, Instr.fill place cells parts = some cells' ∧ All2 (LeafR w O I) cells'.toList cs'
  | [], _, cells, cs, cs', hp, hc, h => by
    cases hp
    injection h with h; subst h
    exact ⟨cells, rfl, hc⟩
  | (i, v) :: parts, _, cells, cs, cs', hp, hc, h => by
    cases hp with | cons h1 hp =>
    rename_i q parts'
    obtain ⟨i', x⟩ := q
    obtain ⟨rfl, hv⟩ := h1
    simp only [fillA, Option.bind_eq_some_iff] at h
    obtain ⟨⟨off, size⟩, hpl, vs, hvs, h⟩ := h
    split at h
    · rename_i hsz
      have hsz := Nat.eq_of_beq_eq_true hsz
      simp only [Option.bind_eq_some_iff] at h
      obtain ⟨cs1, hput, h⟩ := h
      unfold putL at hput
      split at hput
      · rename_i hle
        have hle := Nat.le_of_ble_eq_true hle
        injection hput with hput; subst hput
        have hcv := cells_R hv hvs
        have l1 := hcv.length
        have l2 := hc.length
        simp only [Array.length_toList] at l1 l2
        have hstep := fill_step off v cells (by omega)
        obtain ⟨cells', h1, h2⟩ := fillA_R place parts parts' (v.cells.zipIdx.foldl (fun cs (p : Value × Nat) => cs.setIfInBounds (off + p.2) p.1) cells) _ cs' hp
          (by rw [hstep, l1]; exact ((hc.take off).append hcv).append (hc.drop _)) h
        refine ⟨cells', ?_, h2⟩
        simp only [Instr.fill, hpl]
        rw [if_neg (by simp; omega)]
        exact h1
      · cases hput
    · cases h
theorem placesA_eq : ∀ (fs : List Field) (l : List (Nat × Nat)), placesA P fs = some l → fs.mapM (fun f => (P.info? f.type).map fun i => (f.offset, i.size)) = some l
  | [], l, h => by injection h with h; subst h; rfl
  | f :: fs, l, h => by
    unfold placesA at h
    split at h
    · cases h
    · rename_i i hi
      split at h
      · cases h
      · rename_i r hr
        injection h with h; subst h
        simp [List.mapM_cons, hi, placesA_eq fs r hr]
theorem zeros_R {t : TypeId} {z : List AV} (h : zeros P t = some z) : ∃ i v, P.info? t = some i ∧ i.zero = some v ∧ All2 (LeafR w O I) v.cells.toList z := by
  unfold zeros zeroT at h
  simp only [Option.bind_eq_some_iff, Option.map_eq_some_iff] at h
  obtain ⟨x, ⟨v, ⟨i, hi, hz⟩, rfl⟩, hc⟩ := h
  exact ⟨i, v, hi, hz, cells_R (avOf_R v) hc⟩
end

section
variable {cx : Cx} {w0 w : World} {E F : Nat → Prop} {I : Im} {s : St} {a : Act} {o : Oper} {next : Act → World → Prop} {Q : Exit → Act → World → Prop} {e : Eff} {l : List Nat} {fr : Nat}

theorem parts_R (hR : Rel cx.tid w0 E F I s a w) (ps : Array (Nat × Operand)) :
    All2 (fun p q => p.1 = q.1 ∧ ValR w (Own F I) I p.2 q.2) (ps.map fun (i, x) => (i, a.eval x)).toList (ps.toList.map fun p => (p.1, evalA cx.tid.glob s p.2)) := by
  rw [Array.toList_map]
  induction ps.toList with
  | nil => exact .nil
  | cons p l ih => exact .cons ⟨rfl, hR.ev p.2⟩ ih

theorem op_build (t : TypeId) (ps : Array (Nat × Operand)) (ho : o.op = .build t ps) (hR : Rel cx.tid w0 E F I s a w) (hrun : (effOp cx o fr (evalA cx.tid.glob s)).run s.hp = some (e, l))
    (hn : ∀ I' a' w', Rel cx.tid w0 E F I' (stepSt s o.dst e) a' w' → givenP e → next a' w') : o.wp cx.P a w next Q := by
  simp only [effOp, ho] at hrun
  obtain ⟨z, _, _, h1, h2, _⟩ := run_bind hrun
  obtain ⟨i, zv, hi, hz, hzr⟩ := zeros_R (w := w) (O := Own F I) (I := I) (run_of h1).1
  have hps := parts_R hR ps
  have fin : ∀ cells : Array Value, cx.P.built t (ps.map fun (i, x) => (i, a.eval x)).toList = some cells → ∀ cs, All2 (LeafR w (Own F I) I) cells.toList cs → e = { dst := .agg cs } → o.wp cx.P a w next Q := by
    intro cells hb cs hc he
    subst he
    refine op_value hR rfl (by exact trivial) (v := .agg cells) ?_ (by exact ⟨cells.toList, by simp, hc⟩) hn
    have := run_build (P := cx.P) w t _ cells hb
    simp only [execOp, ho]
    rw [Sem.run_bind, this]
    rfl
  split at h2
  · rename_i fs hfs
    obtain ⟨pl, _, _, h3, h4, _⟩ := run_bind h2
    obtain ⟨cs, _, _, h5, h6, _⟩ := run_bind h4
    obtain ⟨h6, _⟩ := run_ret h6
    obtain ⟨cells, h7, h8⟩ := fillA_R _ _ _ _ _ _ hps hzr (run_of h5).1
    refine fin cells ?_ cs h8 h6.symm
    unfold Program.built
    simp only [hi, structOf_u hfs, hz, placesA_eq _ _ (run_of h3).1]
    exact h7
  · obtain ⟨⟨n, el⟩, _, _, h3, h4, _⟩ := run_bind h2
    obtain ⟨sz, _, _, h5, h6, _⟩ := run_bind h4
    obtain ⟨cs, _, _, h7, h8, _⟩ := run_bind h6
    obtain ⟨h8, _⟩ := run_ret h8
    obtain ⟨cells, h9, h10⟩ := fillA_R _ _ _ _ _ _ hps hzr (run_of h7).1
    obtain ⟨ie, hie, rfl⟩ := sizeT_info (run_of h5).1
    refine fin cells ?_ cs h10 h8.symm
    unfold Program.built
    simp only [hi, arrayOf_u (run_of h3).1, hz, hie]
    exact h9

theorem LeafR.row_any {w : World} {O : Nat → Prop} {I : Im} {v : Value} {t : Ty} {xs : List (den t)} (h : LeafR w O I v (.row t xs)) : (v = .slice none 0 0 ∧ xs = []) ∨ (∃ b off c, v = .slice (some ⟨b, off, none⟩) xs.length c ∧ xs.length ≤ c) ∨ ∃ ad c, v = .slice (some ad) 0 c ∧ xs = [] := by
  cases h with
  | row0 t => exact .inl ⟨rfl, rfl⟩
  | rowz ad c t => exact .inr (.inr ⟨ad, c, rfl, rfl⟩)
  | row b off c t xs vs h1 h2 h3 => exact .inr (.inl ⟨b, off, c, rfl, h2⟩)

theorem op_indexAddr (ok : CxOK cx) (t : TypeId) (x i : Operand) (ho : o.op = .indexAddr t x i) (hR : Rel cx.tid w0 E F I s a w) (hrun : (effOp cx o fr (evalA cx.tid.glob s)).run s.hp = some (e, l)) (hp : preP e)
    (hn : ∀ I' a' w', Rel cx.tid w0 E F I' (stepSt s o.dst e) a' w' → givenP e → next a' w') : o.wp cx.P a w next Q := by
  simp only [effOp, ho] at hrun
  have hi := hR.ev i
  have hx := hR.ev x
  split at hrun
  · rename_i k n hin
    rw [hin] at hi
    have hi := hi.int
    split at hrun
    · rename_i ty xs hxs
      rw [hxs] at hx
      split at hrun
      · rename_i hty
        obtain ⟨rfl, _⟩ := run_ret hrun
        have hb : 0 ≤ n ∧ n < xs.length := hp
        have hty := tyEq_iff hty
        simp only [Option.bind_eq_some_iff] at hty
        obtain ⟨el, hel, hty⟩ := hty
        obtain ⟨_, ie, z, hie, hsz, _⟩ := ok.ty _ _ hty
        have hl : LeafR w (Own F I) I (a.eval x) (.row ty xs) := hx
        rcases hl.row_any with ⟨_, h0⟩ | ⟨b, off, c, hv, hle⟩ | ⟨_, _, _, h0⟩
        · subst h0; simp at hb; omega
        · rw [hv] at hl
          refine op_value hR rfl (by exact trivial) (v := .pointer (some ⟨b, off + (n.toNat * width ty + 0), none⟩)) ?_ (.leaf (.pin b off c ty xs n 0 hb.1 (by omega) hl)) hn
          simp [execOp, ho, hi, hv, Instr.indexAt, asIntOf, run_underlying (sliceOf_u hel), hb.1, hb.2, sizeOf, typeInfo, hie, hsz, add_none]
        · subst h0; simp at hb; omega
      · exact (run_fail hrun).elim
    · rename_i id m hid
      rw [hid] at hx
      obtain ⟨l', hrun, _⟩ := run_ask hrun
      have hpp := hR.hp id
      split at hrun
      · rename_i k' ty xs hb
        rw [hb] at hpp
        obtain ⟨l0, hl0, v, vs, rfl, hmx, hown, hall⟩ := hpp
        split at hrun
        · rename_i hc
          simp only [Bool.and_eq_true] at hc
          obtain ⟨rfl, _⟩ := run_ret hrun
          have hbb : 0 ≤ n ∧ n < xs.length := hp
          have hty := tyEq_iff hc.2
          simp only [Option.bind_eq_some_iff] at hty
          obtain ⟨el, hel, hty⟩ := hty
          obtain ⟨_, ie, z, hie, hsz, _⟩ := ok.ty _ _ hty
          have hkm := Nat.eq_of_beq_eq_true hc.1
          have hv := (hx.own.2.2 _ _ _ hl0).2 hkm.symm
          rcases hown.2 with ⟨_, h0⟩ | ⟨g, cap, cur, hvv, _⟩
          · rw [h0] at hbb; omega
          · subst hvv
            refine op_value hR rfl (by exact trivial) (v := .pointer (some ⟨g, n.toNat * width ty + 0, none⟩)) ?_ (.leaf (.optr _ _ _ _ _ hx.own.1 rfl fun m' t' u' hl' => ?_)) hn
            · simp [execOp, ho, hi, hv, Instr.indexAt, asIntOf, run_underlying (sliceOf_u hel), hbb.1, hbb.2, sizeOf, typeInfo, hie, hsz, add_none]
            · rw [hl0] at hl'
              injection hl' with hl'; injection hl' with e1 e2 e3
              subst e1; subst e2; subst e3
              exact ⟨by omega, fun _ => ⟨hbb.1, g, _, cap, by omega, rfl, rfl⟩⟩
        · exact (run_fail hrun).elim
      · exact (run_fail hrun).elim
    · rename_i id off hid
      rw [hid] at hx
      obtain ⟨⟨len, el⟩, _, _, h1, h2, _⟩ := run_bind hrun
      obtain ⟨sz, _, _, h3, h4, _⟩ := run_bind h2
      obtain ⟨l', h4, _⟩ := run_ask h4
      have hpp := hR.hp id
      split at h4
      · rename_i cells hb
        rw [hb] at hpp
        obtain ⟨l0, hl0, g, cs, ty, rfl, hg, hall⟩ := hpp
        split at h4
        · rename_i m _ _
          split at h4
          case isFalse => exact (run_fail h4).elim
          rename_i hm
          obtain ⟨rfl, _⟩ := run_ret h4
          have hlt : m < len := Nat.le_of_ble_eq_true hm
          obtain ⟨ie, hie, rfl⟩ := sizeT_info (run_of h3).1
          refine op_value hR rfl (by exact trivial) (v := .pointer (some ⟨g, off + m * ie.size, none⟩)) ?_ (.leaf (.ptr _ _ _ hx.ptr.1 rfl (fun b hb => ?_) (fun b u hb _ => ?_))) hn
          · simp [execOp, ho, hi, hx.ptr.2.2.1 g hl0, Instr.indexAt, Instr.sureAddr, asIntOf, run_underlying (arrayOf_u (run_of h1).1), sizeOf, typeInfo, hie, add_none, hlt]
          · rw [hl0] at hb; injection hb with hb; injection hb with hb; subst hb; rfl
          · rw [hl0] at hb; injection hb with hb; cases hb
        · exact (run_fail h4).elim
      · exact (run_fail h4).elim
    · rename_i ty xs hxs
      rw [hxs] at hx
      obtain ⟨⟨len, el⟩, _, _, h1, h2, _⟩ := run_bind hrun
      split at h2
      · rename_i hc
        simp only [Bool.and_eq_true] at hc
        obtain ⟨rfl, _⟩ := run_ret h2
        have hb : 0 ≤ n ∧ n < xs.length := hp
        have hty := tyEq_iff hc.1
        obtain ⟨_, ie, z, hie, hsz, _⟩ := ok.ty _ _ hty
        obtain ⟨q1, q2, b, base, c, hv, hl⟩ := hx.pin
        have hlen : len = xs.length := Nat.eq_of_beq_eq_true hc.2
        have hnl : n < (len : Int) := by omega
        have hv : a.eval x = .pointer (some ⟨b, base, none⟩) := by simpa using hv
        obtain ⟨m, rfl⟩ := Int.eq_ofNat_of_zero_le hb.1
        have hml : m < len := by omega
        refine op_value hR rfl (by exact trivial) (v := .pointer (some ⟨b, base + ((m : Int).toNat * width ty + 0), none⟩)) ?_ (.leaf (.pin b base c ty xs m 0 hb.1 (by omega) hl)) hn
        simp [execOp, ho, hi, hv, Instr.indexAt, Instr.sureAddr, asIntOf, run_underlying (arrayOf_u (run_of h1).1), sizeOf, typeInfo, hie, hsz, add_none, hml]
      · exact (run_fail h2).elim
    · exact (run_fail hrun).elim
  · exact (run_fail hrun).elim
end
end Go.Proofs.YtnhipiedjekkpaaGreatDoor.AX
end
section
namespace Go.Proofs.YtnhipiedjekkpaaGreatDoor.AX
open Go Go.RowKit

def kill (I : Im) (ids : List Nat) : Im := fun k => if k ∈ ids then some .dead else I k
def deads (ids : List Nat) : List (Nat × Blk) := ids.map fun id => (id, .dead)

section
variable {tid : Env} {w0 w : World} {E F : Nat → Prop} {I : Im} {s : St} {a : Act}
theorem setAll_append (hp : List (Option Blk)) : ∀ (l m : List (Nat × Blk)), setAll hp (l ++ m) = setAll (setAll hp l) m
  | [], m => rfl
  | (id, b) :: l, m => by simp only [List.cons_append, setAll]; exact setAll_append _ l m
theorem setAll_length : ∀ (hp : List (Option Blk)) (l : List (Nat × Blk)), (setAll hp l).length = hp.length
  | hp, [] => rfl
  | hp, (id, b) :: l => by simp only [setAll]; rw [setAll_length]; simp
theorem kill_nil (I : Im) : kill I [] = I := by funext k; simp [kill]
theorem kill_cons (I : Im) (id : Nat) (ids : List Nat) : kill I (id :: ids) = kill (iup I id .dead) ids := by
  funext k
  unfold kill iup
  by_cases h : k = id
  · subst h; simp
  · simp [h]
theorem kill_le {ids : List Nat} : ImLe I (kill I ids) := by
  intro k l hl
  by_cases h : k ∈ ids
  · exact ⟨.dead, by simp [kill, h], .inr (.inl rfl)⟩
  · exact ⟨l, by simp [kill, h, hl], .inl rfl⟩
theorem kill_own {ids : List Nat} {b : Nat} (h : Own F (kill I ids) b) : Own F I b ∧ ∀ id l, I id = some l → l.has b → id ∈ ids → F b ∨ ∃ id' l', id' ∉ ids ∧ I id' = some l' ∧ l'.has b := by
  rcases h with h | ⟨k, l, hk, hb⟩
  · exact ⟨.inl h, fun _ _ _ _ _ => .inl h⟩
  · unfold kill at hk
    by_cases hm : k ∈ ids
    · rw [if_pos hm] at hk; injection hk with hk; subst hk; exact hb.elim
    · rw [if_neg hm] at hk
      exact ⟨.inr ⟨k, l, hk, hb⟩, fun _ _ _ _ _ => .inr ⟨k, l, hm, hk, hb⟩⟩

theorem Rel.dead1 (hR : Rel tid w0 E F I s a w) {id : Nat} (h : (I id).isSome = true) : Rel tid w0 E F (iup I id .dead) ⟨s.tm, s.hp.set id (some .dead)⟩ a w := by
  refine hR.upd (w' := w) ?_ (fun l0 _ => .inr (.inl rfl)) (fun _ _ _ => rfl) (fun g hg => False.elim hg) rfl rfl rfl (Nat.le_refl _) (fun _ => rfl)
  rcases Nat.lt_or_ge id s.hp.length with h' | h'
  · exact h'
  · have := hR.hp id
    rw [List.getD_eq_getElem?_getD, List.getElem?_eq_none h'] at this
    simp only [Option.getD_none] at this
    rw [this] at h; cases h
theorem Rel.kill : ∀ (ids : List Nat) {I : Im} {s : St}, Rel tid w0 E F I s a w → (∀ id ∈ ids, (I id).isSome = true) → Rel tid w0 E F (kill I ids) ⟨s.tm, setAll s.hp (deads ids)⟩ a w
  | [], I, s, hR, _ => by rw [kill_nil]; exact hR
  | id :: ids, I, s, hR, h => by
    rw [kill_cons]
    refine Rel.kill ids (hR.dead1 (h id (List.mem_cons_self))) (fun k hk => ?_)
    unfold iup
    by_cases e : k = id
    · rw [if_pos e]; rfl
    · rw [if_neg e]; exact h k (List.mem_cons_of_mem _ hk)
theorem Rel.some_of (hR : Rel tid w0 E F I s a w) {id : Nat} {b : Blk} (h : s.hp.getD id none = some b) : (I id).isSome = true := by
  have := hR.hp id
  rw [h] at this
  obtain ⟨l, hl, _⟩ := this
  rw [hl]; rfl

theorem LeafR.kill (hR : Rel tid w0 E F I s a w) {ids : List Nat} {v : Value} {x : AV} (h : LeafR w (Own F I) I v x) : LeafR w (Own F (kill I ids)) (kill I ids) v x :=
  h.mono (fun _ _ _ => rfl) (fun _ _ h => (kill_own h).1) kill_le
theorem ValR.kill (hR : Rel tid w0 E F I s a w) {ids : List Nat} {v : Value} {x : AV} (h : ValR w (Own F I) I v x) : ValR w (Own F (kill I ids)) (kill I ids) v x :=
  h.mono (fun _ _ _ => rfl) (fun _ _ h => (kill_own h).1) kill_le

theorem still_row (hR : Rel tid w0 E F I s a w) {id n : Nat} {t : Ty} {xs : List (den t)} {ids : List Nat} {v : Value} (hb : s.hp.getD id none = some (.rowb n t xs)) (hm : id ∈ ids)
    (h : ValR w (Own F I) I v (.own id n)) : LeafR w (Own F (kill I ids)) (kill I ids) v (.row t xs) := by
  have hp := hR.hp id
  rw [hb] at hp
  obtain ⟨l0, hl0, u, vs, rfl, hmx, hown, hall⟩ := hp
  have hv := (h.own.2.2 _ _ _ hl0).2 rfl
  subst hv
  rcases hown.2 with ⟨rfl, h0⟩ | ⟨g, cap, cur, rfl, _, hg, hn, hcm, hcs, htake⟩
  · have : xs = [] := List.eq_nil_of_length_eq_zero h0
    subst this
    exact .row0 t
  · refine .row g 0 cap t xs vs (fun _ ho => ?_) hn hmx (fun j u hu => ?_) hall.length (fun j u x hu hx => ?_)
    · have hh : (Loc.row n t (.slice (some ⟨g, 0, none⟩) xs.length cap)).has g := rfl
      rcases (kill_own ho).2 id _ hl0 hh hm with hF | ⟨id', l', hni, hl', hb'⟩
      · exact hR.apart id _ g hl0 hh hF
      · exact hni (hR.inj id' id l' _ g hl' hl0 hb' hh ▸ hm)
    · have := hown.cells (g := g) rfl _ _ hu
      rw [add_none] at this
      simpa using this
    · obtain ⟨y, hy, hr⟩ := hall.get' hu
      rw [hx] at hy; injection hy with hy; subst hy
      exact LeafR.kill hR hr

theorem still_run {x y : AV} {sets : List (Nat × Blk)} {l : List Nat} (h : (still x).run s.hp = some ((y, sets), l)) :
    ∃ ids, sets = deads ids ∧ (∀ id ∈ ids, ∃ b, s.hp.getD id none = some b) ∧
      ∀ (w0 w : World) (E F : Nat → Prop) (I : Im) (a : Act) (ids' : List Nat), Rel tid w0 E F I s a w → (∀ id ∈ ids, id ∈ ids') → ∀ v, ValR w (Own F I) I v x → ValR w (Own F (AX.kill I ids')) (AX.kill I ids') v y := by
  have other : ∀ z : AV, (Rd.ret (z, ([] : List (Nat × Blk)))).run s.hp = some ((y, sets), l) → z = x → ∃ ids, sets = deads ids ∧ (∀ id ∈ ids, ∃ b, s.hp.getD id none = some b) ∧
      ∀ (w0 w : World) (E F : Nat → Prop) (I : Im) (a : Act) (ids' : List Nat), Rel tid w0 E F I s a w → (∀ id ∈ ids, id ∈ ids') → ∀ v, ValR w (Own F I) I v x → ValR w (Own F (AX.kill I ids')) (AX.kill I ids') v y := by
    intro z hz e
    obtain ⟨h1, _⟩ := run_ret hz
    injection h1 with h1 h2
    subst h1; subst h2; subst e
    exact ⟨[], rfl, (fun _ h => nomatch h), fun _ _ _ _ _ _ _ hR _ v hv => ValR.kill hR hv⟩
  unfold still at h
  split at h
  · rename_i id n
    obtain ⟨l', h, _⟩ := run_ask h
    split at h
    · rename_i m t xs hb
      split at h
      · rename_i hm
        obtain ⟨h1, _⟩ := run_ret h
        injection h1 with h1 h2
        subst h1; subst h2
        have hm := Nat.eq_of_beq_eq_true hm
        subst hm
        refine ⟨[id], rfl, fun k hk => ?_, fun w0 w E F I a ids' hR hs v hv => .leaf (still_row hR hb (hs id (.head _)) hv)⟩
        rw [List.mem_singleton] at hk; subst hk; exact ⟨_, hb⟩
      · exact (run_fail h).elim
    · exact (run_fail h).elim
  · exact other _ h rfl
theorem stills_run : ∀ {xs ys : List AV} {sets : List (Nat × Blk)} {l : List Nat}, (stills xs).run s.hp = some ((ys, sets), l) →
    ∃ ids, sets = deads ids ∧ (∀ id ∈ ids, ∃ b, s.hp.getD id none = some b) ∧
      ∀ (w0 w : World) (E F : Nat → Prop) (I : Im) (a : Act) (ids' : List Nat), Rel tid w0 E F I s a w → (∀ id ∈ ids, id ∈ ids') → ∀ vs, All2 (ValR w (Own F I) I) vs xs →
        All2 (ValR w (Own F (AX.kill I ids')) (AX.kill I ids')) vs ys
  | [], ys, sets, l, h => by
    obtain ⟨h1, _⟩ := run_ret h
    injection h1 with h1 h2
    subst h1; subst h2
    exact ⟨[], rfl, (fun _ h => nomatch h), fun _ _ _ _ _ _ _ _ _ vs hv => by cases hv; exact .nil⟩
  | x :: xs, ys, sets, l, h => by
    simp only [stills] at h
    obtain ⟨⟨y, s1⟩, _, _, h1, h2, _⟩ := run_bind h
    obtain ⟨⟨ys', s2⟩, _, _, h3, h4, _⟩ := run_bind h2
    obtain ⟨h5, _⟩ := run_ret h4
    injection h5 with h5 h6
    subst h5; subst h6
    obtain ⟨i1, e1, f1, g1⟩ := still_run (tid := tid) h1
    obtain ⟨i2, e2, f2, g2⟩ := stills_run h3
    subst e1; subst e2
    refine ⟨i1 ++ i2, by simp [deads], fun k hk => ?_, fun w0 w E F I a ids' hR hs vs hv => ?_⟩
    · rcases List.mem_append.1 hk with h | h
      · exact f1 k h
      · exact f2 k h
    · cases hv with | cons ha hv =>
      exact .cons (g1 w0 w E F I a ids' hR (fun k hk => hs k (List.mem_append.2 (.inl hk))) _ ha) (g2 w0 w E F I a ids' hR (fun k hk => hs k (List.mem_append.2 (.inr hk))) _ hv)
end

section
variable {cx : Cx} {w0 w : World} {E F : Nat → Prop} {I : Im} {s : St} {a : Act} {o : Oper} {next : Act → World → Prop} {Q : Exit → Act → World → Prop} {e : Eff} {l : List Nat} {fr : Nat}

theorem op_kill {v : Value} {ids : List Nat} (hR : Rel cx.tid w0 E F I s a w) (hs : e.sets = deads ids) (hi : ∀ id ∈ ids, ∃ b, s.hp.getD id none = some b) (hg : givenP e)
    (hrun : (execOp a.eval o).run cx.P w = .ok (.value v) w) (hv : ValR w (Own F (kill I ids)) (kill I ids) v e.dst)
    (hn : ∀ I' a' w', Rel cx.tid w0 E F I' (stepSt s o.dst e) a' w' → givenP e → next a' w') : o.wp cx.P a w next Q := by
  refine wp_of_value hrun (hn (kill I ids) _ _ ?_ hg)
  have := (Rel.kill ids hR fun id hid => by obtain ⟨b, hb⟩ := hi id hid; exact hR.some_of hb).put o.dst hv
  unfold stepSt putL'
  rw [hs]
  exact this

theorem bound_R {hR : Rel cx.tid w0 E F I s a w} {x : Option Operand} {d n : Int} (h : boundA d (x.map (evalA cx.tid.glob s)) = some n) : (x = none ∧ n = d) ∨ ∃ y k, x = some y ∧ a.eval y = .int k n := by
  cases x with
  | none => injection h with h; exact .inl ⟨rfl, h.symm⟩
  | some y =>
    simp only [Option.map_some] at h
    unfold boundA at h
    split at h
    · rename_i hh; cases hh
    · rename_i k m hh
      injection h with h; subst h
      injection hh with hh
      have := hR.ev y
      rw [hh] at this
      exact .inr ⟨y, k, rfl, this.int⟩
    · cases h

theorem run_bounds {P : Program} {b : Bool} {len cap : Nat} {lo hi : Option Value} {l h : Int} (hl : (lo = none ∧ l = 0) ∨ ∃ k, lo = some (.int k l)) (hh : (hi = none ∧ h = len) ∨ ∃ k, hi = some (.int k h))
    (h0 : 0 ≤ l) (h1 : l ≤ h) (h2 : h ≤ cap) (h3 : h ≤ len) : (Instr.sliceBounds b len cap lo hi none).run P w = .ok (l.toNat, h.toNat, cap) w := by
  have h0' : 0 ≤ h := by omega
  have h1' : l ≤ (h.toNat : Int) := by omega
  have hmx : ¬ max h 0 < l := by omega
  rcases hl with ⟨rfl, rfl⟩ | ⟨k, rfl⟩ <;> rcases hh with ⟨rfl, rfl⟩ | ⟨k', rfl⟩ <;>
    simp [Instr.sliceBounds, Instr.sliceBound, asIntOf, *]

theorem cellsOf_take (t : Ty) (xs : List (den t)) (n : Nat) : cellsOf t (xs.take n) = (cellsOf t xs).take (n * width t) := by
  induction xs generalizing n with
  | nil => simp [cellsOf]
  | cons x xs ih =>
    cases n with
    | zero => simp [cellsOf]
    | succ n =>
      have h := ih n
      unfold cellsOf at *
      have : (n + 1) * width t = width t + n * width t := by rw [Nat.add_mul]; omega
      simp only [List.take_succ_cons, List.flatMap_cons, this, List.take_append, leaves_length, h]
      rw [List.take_of_length_le (l := leaves t x) (by rw [leaves_length]; omega), Nat.add_sub_cancel_left]
theorem cellsOf_drop (t : Ty) (xs : List (den t)) (n : Nat) : cellsOf t (xs.drop n) = (cellsOf t xs).drop (n * width t) := by
  induction xs generalizing n with
  | nil => simp [cellsOf]
  | cons x xs ih =>
    cases n with
    | zero => simp [cellsOf]
    | succ n =>
      have h := ih n
      unfold cellsOf at *
      have : (n + 1) * width t = width t + n * width t := by rw [Nat.add_mul]; omega
      simp only [List.drop_succ_cons, List.flatMap_cons, this, List.drop_append, leaves_length, h]
      rw [List.drop_of_length_le (l := leaves t x) (by rw [leaves_length]; omega), Nat.add_sub_cancel_left, List.nil_append]

theorem row_piece {O : Nat → Prop} {b off c : Nat} {t : Ty} {xs : List (den t)} (h : LeafR w O I (.slice (some ⟨b, off, none⟩) xs.length c) (.row t xs)) {i j : Nat} (hij : i ≤ j) (hj : j ≤ xs.length) (hc : xs.length ≤ c) :
    LeafR w O I (.slice (if c = i then some ⟨b, off, none⟩ else some ⟨b, off + i * width t, none⟩) (j - i) (c - i)) (.row t ((xs.take j).drop i)) := by
  have hlen : ((xs.take j).drop i).length = j - i := by rw [List.length_drop, List.length_take]; omega
  rw [← hlen]
  generalize hv : Value.slice (some ⟨b, off, none⟩) xs.length c = v at h
  cases h with
  | row0 t => cases hv
  | rowz ad c' t =>
    have hj0 : j = 0 := by simpa using hj
    subst hj0
    have hi0 : i = 0 := by omega
    subst hi0
    simp only [List.take_nil, List.drop_nil, List.length_nil]
    split <;> exact .rowz _ _ _
  | row b' off' c' t xs vs h1 h2 h3 h4 h5 h6 =>
    injection hv with e1 e2 e3
    injection e1 with e1
    injection e1 with e1 e2
    subst e1; subst e2; subst e3
    have ht : cellsOf t ((xs.take j).drop i) = ((cellsOf t xs).take (j * width t)).drop (i * width t) := by rw [cellsOf_drop, cellsOf_take]
    have hvs : All2 (LeafR w O I) ((vs.take (j * width t)).drop (i * width t)) (cellsOf t ((xs.take j).drop i)) := by
      rw [ht]; exact ((All2.of h5 h6).take _).drop _
    have hO : 0 < ((vs.take (j * width t)).drop (i * width t)).length → ¬ O b := fun h => h1 (by rw [List.length_drop, List.length_take] at h; omega)
    by_cases e : c = i
    · rw [if_pos e]
      have hz : (xs.take j).drop i = [] := by apply List.eq_nil_of_length_eq_zero; omega
      refine .row b off _ t _ ((vs.take (j * width t)).drop (i * width t)) hO (by rw [hz]; simp) (by rw [hz]; simp) (fun k u hk => ?_) hvs.length (fun k u x hk hx => ?_)
      · have := hvs.length
        rw [hz] at this
        have h0 : (vs.take (j * width t)).drop (i * width t) = [] := List.eq_nil_of_length_eq_zero (by rw [this]; rfl)
        rw [h0] at hk
        simp at hk
      · obtain ⟨y, hy, hr⟩ := hvs.get' hk
        rw [hx] at hy; injection hy with hy; subst hy; exact hr
    · rw [if_neg e]
      refine .row b _ _ t _ ((vs.take (j * width t)).drop (i * width t)) hO (by omega) (by omega) (fun k u hk => ?_) hvs.length (fun k u x hk hx => ?_)
      · rw [List.getElem?_drop, List.getElem?_take] at hk
        split at hk
        · rw [Nat.add_assoc]; exact h4 _ _ hk
        · cases hk
      · obtain ⟨y, hy, hr⟩ := hvs.get' hk
        rw [hx] at hy; injection hy with hy; subst hy; exact hr

theorem op_cut (ok : CxOK cx) (t : TypeId) (x h : Operand) (ho : o.op = .slice t x none (some h) none) (hR : Rel cx.tid w0 E F I s a w) {id n : Nat} (hev : evalA cx.tid.glob s x = .own id n)
    (hrun : Rd.run s.hp (.ask id fun
      | some (.rowb m ty xs) => if (Nat.beq m n && tyEq ty ((sliceOf cx.P t).bind cx.tyOf)) = true then (Rd.of (boundA 0 (some (evalA cx.tid.glob s h)))).bind fun h =>
          .ret { pre := some (0 ≤ h ∧ h ≤ xs.length), dst := .own id (n + 1), sets := [(id, .rowb (n + 1) ty (xs.take h.toNat))] } else .fail
      | _ => .fail) = some (e, l)) (hp : preP e)
    (hn : ∀ I' a' w', Rel cx.tid w0 E F I' (stepSt s o.dst e) a' w' → givenP e → next a' w') : o.wp cx.P a w next Q := by
  have hx := hR.ev x
  rw [hev] at hx
  obtain ⟨l', h1, _⟩ := run_ask hrun
  split at h1
  case h_2 => exact (run_fail h1).elim
  rename_i m ty xs hb
  split at h1
  case isFalse => exact (run_fail h1).elim
  rename_i hc
  simp only [Bool.and_eq_true] at hc
  obtain ⟨hm, hty⟩ := hc
  have hm := Nat.eq_of_beq_eq_true hm
  subst hm
  obtain ⟨k, _, _, h2, h3, _⟩ := run_bind h1
  obtain ⟨rfl, _⟩ := run_ret h3
  obtain ⟨b0, b1⟩ : 0 ≤ k ∧ k ≤ xs.length := hp
  have hty := tyEq_iff hty
  simp only [Option.bind_eq_some_iff] at hty
  obtain ⟨el, hel, hty⟩ := hty
  obtain ⟨_, ie, z, hie, hsz, _⟩ := ok.ty _ _ hty
  have hh := bound_R (hR := hR) (x := some h) (run_of h2).1
  obtain ⟨kk, hk⟩ : ∃ kk, a.eval h = .int kk k := by
    rcases hh with ⟨h, _⟩ | ⟨y, kk, hy, hk⟩
    · cases h
    · injection hy with hy; subst hy; exact ⟨kk, hk⟩
  have hid : id < s.hp.length := by
    rcases Nat.lt_or_ge id s.hp.length with h' | h'
    · exact h'
    · rw [List.getD_eq_getElem?_getD, List.getElem?_eq_none h'] at hb; cases hb
  have hbk := hR.hp id
  rw [hb] at hbk
  obtain ⟨l0, hl0, v0, vs, rfl, hmx, hown, hall⟩ := hbk
  have hv0 : a.eval x = v0 := (hx.own.2.2 _ _ _ hl0).2 rfl
  -- the slice behind the cut
  have fin : ∀ (v' : Value), w.ownsRow 0 (cx.tid ty) (width ty) v' (xs.take k.toNat).length (vs.take (k.toNat * width ty)) → v'.oneCell' = true → (∀ g, v'.ownBlock = some g → v0.ownBlock = some g) →
      (execOp a.eval o).run cx.P w = .ok (.value v') w → o.wp cx.P a w next Q := fun v' q1 q2 q3 q4 => by
    have hR' := hR.upd (id := id) (l := .row (m + 1) ty v') (b := .rowb (m + 1) ty (xs.take k.toNat)) (w' := w) hid (fun l1 h1 => by rw [hl0] at h1; injection h1 with h1; subst h1; exact .inr (.inr ⟨m, m + 1, ty, v0, v', rfl, rfl, Nat.lt_succ_self _⟩))
      (fun g _ _ => rfl) (fun g hg => ⟨.inl ⟨_, hl0, q3 g hg⟩, (hR.place id _ g hl0 (q3 g hg)).2⟩) rfl rfl rfl (Nat.le_refl _) (fun hmono => ⟨v', _, rfl, by rw [List.length_take]; omega, q1, by
        rw [cellsOf_take]; exact (hall.take _).mono fun u x h => hmono u x h⟩)
    refine wp_of_value q4 (hn (iup I id (.row (m + 1) ty v')) _ _ ?_ (by exact trivial))
    have := hR'.put o.dst (v := v') (x := .own id (m + 1)) (.leaf (.own _ _ _ (by rw [iup_same]; rfl) q2 (fun m' t' u hb => by rw [iup_same] at hb; injection hb with hb; injection hb with e1 e2 e3; subst e1; subst e3; exact ⟨Nat.le_refl _, fun _ => rfl⟩)))
    exact this
  have hkl : (xs.take k.toNat).length = k.toNat := by rw [List.length_take]; omega
  rw [hkl] at fin
  rcases hown.2 with ⟨rfl, h0⟩ | ⟨g, cap, cur, rfl, hg0, hg, hnc, hcm, hcs, htake⟩
  · have hk0 : k = 0 := by omega
    subst hk0
    have hb' := run_bounds (P := cx.P) (w := w) (b := true) (len := 0) (cap := 0) (lo := none) (hi := some (.int kk 0)) (l := 0) (h := 0) (.inl ⟨rfl, rfl⟩) (.inr ⟨kk, rfl⟩) (Int.le_refl _) (Int.le_refl _) (Int.le_refl _) (Int.le_refl _)
    refine fin (.slice none 0 0) ⟨by simp, .inl ⟨rfl, rfl⟩⟩ rfl (fun g h => h) ?_
    simp only [execOp, ho, hv0, Instr.sliceAt, Sem.run_bind, run_underlying (sliceOf_u hel), Result.andThen_ok, Instr.slice, Option.map_none, Option.map_some, hk]
    simp [hb', sizeOf, typeInfo, hie]
  · have hb' := run_bounds (P := cx.P) (w := w) (b := true) (len := xs.length) (cap := cap) (lo := none) (hi := some (.int kk k)) (l := 0) (h := k) (.inl ⟨rfl, rfl⟩) (.inr ⟨kk, rfl⟩) (Int.le_refl _) b0 (by omega) b1
    refine fin (.slice (some ⟨g, 0, none⟩) k.toNat cap) ⟨?_, .inr ⟨g, cap, cur, rfl, hg0, hg, by omega, hcm, hcs, ?_⟩⟩ rfl (fun g h => h) ?_
    · rw [List.length_take, hown.1, Nat.min_eq_left (Nat.mul_le_mul_right _ (by omega))]
    · rw [← htake, List.take_take, Nat.min_eq_left (Nat.mul_le_mul_right _ (by omega))]
    · simp only [execOp, ho, hv0, Instr.sliceAt, Sem.run_bind, run_underlying (sliceOf_u hel), Result.andThen_ok, Instr.slice, Option.map_none, Option.map_some, hk]
      simp [hb', sizeOf, typeInfo, hie, hsz, Addr.add]
theorem op_slice (ok : CxOK cx) (t : TypeId) (x : Operand) (lo hi mx : Option Operand) (ho : o.op = .slice t x lo hi mx) (hR : Rel cx.tid w0 E F I s a w) (hrun : (effOp cx o fr (evalA cx.tid.glob s)).run s.hp = some (e, l)) (hp : preP e)
    (hn : ∀ I' a' w', Rel cx.tid w0 E F I' (stepSt s o.dst e) a' w' → givenP e → next a' w') : o.wp cx.P a w next Q := by
  simp only [effOp, ho] at hrun
  have hx := hR.ev x
  split at hrun
  · exact (run_fail hrun).elim
  rename_i hmx
  have hmx : mx = none := by cases mx with
    | none => rfl
    | some _ => exact absurd rfl hmx
  subst hmx
  split at hrun
  · rename_i id n hi' hcut
    have hcut' : evalA cx.tid.glob s x = .own id n ∧ lo = none ∧ hi = some hi' := by
      unfold ownCut at hcut
      split at hcut
      · rename_i hev
        split at hcut
        · injection hcut with hcut; injection hcut with e1 e2; injection e2 with e2 e3
          subst e1; subst e2; subst e3; exact ⟨hev, rfl, rfl⟩
        · cases hcut
      · cases hcut
    obtain ⟨hev, rfl, rfl⟩ := hcut'
    exact op_cut ok t x hi' ho hR hev hrun hp hn
  rename_i hcut
  clear hcut
  split at hrun
  · rename_i st hst
    rw [hst] at hx
    obtain ⟨hs, hm⟩ := hx.str
    split at hrun
    · rename_i hu
      obtain ⟨l1, _, _, h1, h2, _⟩ := run_bind hrun
      obtain ⟨h1', _, _, h3, h4, _⟩ := run_bind h2
      obtain ⟨rfl, _⟩ := run_ret h4
      obtain ⟨b0, b1, b2⟩ : 0 ≤ l1 ∧ l1 ≤ h1' ∧ h1' ≤ st.size := hp
      have hl := bound_R (hR := hR) (run_of h1).1
      have hh := bound_R (hR := hR) (run_of h3).1
      have hb := run_bounds (P := cx.P) (w := w) (b := false) (len := st.size) (cap := st.size) (lo := lo.map a.eval) (hi := hi.map a.eval) (l := l1) (h := h1')
        (by rcases hl with ⟨rfl, rfl⟩ | ⟨y, k, rfl, hy⟩; exact .inl ⟨rfl, rfl⟩; exact .inr ⟨k, by simp [hy]⟩)
        (by rcases hh with ⟨rfl, rfl⟩ | ⟨y, k, rfl, hy⟩; exact .inl ⟨rfl, rfl⟩; exact .inr ⟨k, by simp [hy]⟩) b0 b1 b2 b2
      refine op_value hR rfl (by exact trivial) (v := .string (st.extract l1.toNat h1'.toNat)) ?_ (.leaf (.str _ ?_)) hn
      · simp only [execOp, ho, hs, Instr.sliceAt, Sem.run_bind, run_underlying hu, Result.andThen_ok, Instr.slice, Option.map_none]
        simp [hb]
      · rw [ByteArray.size_extract]; omega
    · exact (run_fail hrun).elim
  · obtain ⟨⟨y, sets⟩, _, _, h1, h2, _⟩ := run_bind hrun
    obtain ⟨ids, rfl, hids, hval⟩ := still_run (tid := cx.tid) h1
    simp only at h2
    split at h2
    · rename_i ty xs
      split at h2
      · rename_i hty
        obtain ⟨l1, _, _, h3, h4, _⟩ := run_bind h2
        obtain ⟨h1', _, _, h5, h6, _⟩ := run_bind h4
        obtain ⟨rfl, _⟩ := run_ret h6
        obtain ⟨b0, b1, b2⟩ : 0 ≤ l1 ∧ l1 ≤ h1' ∧ h1' ≤ xs.length := hp
        have hty := tyEq_iff hty
        simp only [Option.bind_eq_some_iff] at hty
        obtain ⟨el, hel, hty⟩ := hty
        obtain ⟨_, ie, z, hie, hsz, _⟩ := ok.ty _ _ hty
        have hv : LeafR w (Own F (kill I ids)) (kill I ids) (a.eval x) (.row ty xs) := hval _ _ _ _ _ _ ids hR (fun _ h => h) _ hx
        have hl := bound_R (hR := hR) (run_of h3).1
        have hh := bound_R (hR := hR) (run_of h5).1
        rcases hv.row_any with ⟨hv0, hx0⟩ | ⟨b, off, c, hvv, hle⟩ | ⟨ad, c, hvv, hx0⟩
        · subst hx0
          have hb := run_bounds (P := cx.P) (w := w) (b := true) (len := 0) (cap := 0) (lo := lo.map a.eval) (hi := hi.map a.eval) (l := l1) (h := h1')
            (by rcases hl with ⟨rfl, rfl⟩ | ⟨y, k, rfl, hy⟩; exact .inl ⟨rfl, rfl⟩; exact .inr ⟨k, by simp [hy]⟩)
            (by rcases hh with ⟨rfl, rfl⟩ | ⟨y, k, rfl, hy⟩; exact .inl ⟨rfl, rfl⟩; exact .inr ⟨k, by simp [hy]⟩) b0 b1 b2 b2
          have e1 : l1 = 0 := by simp at b2; omega
          have e2 : h1' = 0 := by simp at b2; omega
          subst e1; subst e2
          refine op_kill (ids := ids) hR rfl hids (by exact trivial) (v := .slice none 0 0) ?_ (.leaf (by simpa using LeafR.row0 ty)) hn
          simp only [execOp, ho, hv0, Instr.sliceAt, Sem.run_bind, run_underlying (sliceOf_u hel), Result.andThen_ok, Instr.slice, Option.map_none]
          simp [hb, sizeOf, typeInfo, hie]
        · have hb := run_bounds (P := cx.P) (w := w) (b := true) (len := xs.length) (cap := c) (lo := lo.map a.eval) (hi := hi.map a.eval) (l := l1) (h := h1')
            (by rcases hl with ⟨rfl, rfl⟩ | ⟨y, k, rfl, hy⟩; exact .inl ⟨rfl, rfl⟩; exact .inr ⟨k, by simp [hy]⟩)
            (by rcases hh with ⟨rfl, rfl⟩ | ⟨y, k, rfl, hy⟩; exact .inl ⟨rfl, rfl⟩; exact .inr ⟨k, by simp [hy]⟩) b0 b1 (by omega) b2
          rw [hvv] at hv
          refine op_kill (ids := ids) hR rfl hids (by exact trivial) ?_ (.leaf (row_piece hv (i := l1.toNat) (j := h1'.toNat) (by omega) (by omega) hle)) hn
          simp only [execOp, ho, hvv, Instr.sliceAt, Sem.run_bind, run_underlying (sliceOf_u hel), Result.andThen_ok, Instr.slice, Option.map_none]
          simp [hb, sizeOf, typeInfo, hie, hsz, add_none]
        · subst hx0
          have hb := run_bounds (P := cx.P) (w := w) (b := true) (len := 0) (cap := c) (lo := lo.map a.eval) (hi := hi.map a.eval) (l := l1) (h := h1')
            (by rcases hl with ⟨rfl, rfl⟩ | ⟨y, k, rfl, hy⟩; exact .inl ⟨rfl, rfl⟩; exact .inr ⟨k, by simp [hy]⟩)
            (by rcases hh with ⟨rfl, rfl⟩ | ⟨y, k, rfl, hy⟩; exact .inl ⟨rfl, rfl⟩; exact .inr ⟨k, by simp [hy]⟩) b0 b1 (by simp at b2; omega) b2
          have e1 : l1 = 0 := by simp at b2; omega
          have e2 : h1' = 0 := by simp at b2; omega
          subst e1; subst e2
          refine op_kill (ids := ids) hR rfl hids (by exact trivial) (v := .slice (some ad) 0 c) ?_ (.leaf (by simpa using LeafR.rowz ad c ty)) hn
          simp only [execOp, ho, hvv, Instr.sliceAt, Sem.run_bind, run_underlying (sliceOf_u hel), Result.andThen_ok, Instr.slice, Option.map_none]
          simp [hb, sizeOf, typeInfo, hie, Addr.add]
      · exact (run_fail h2).elim
    · exact (run_fail h2).elim
end
end Go.Proofs.YtnhipiedjekkpaaGreatDoor.AX
end
section
namespace Go.Proofs.YtnhipiedjekkpaaGreatDoor.AX
open Go Go.RowKit

section
variable {P : Program} {w : World} {O : Nat → Prop} {I : Im}
theorem asInt_R {v : Value} {x : AV} {n : Int} (h : LeafR w O I v x) (hx : asIntA x = some n) : LeafR w O I v (.int .i64 n) := by
  unfold asIntA at hx; split at hx
  · injection hx with hx; subst hx; exact h
  · cases hx
theorem asStr_R {v : Value} {x : AV} {n : ByteArray} (h : LeafR w O I v x) (hx : asStrA x = some n) : LeafR w O I v (.str n) := by
  unfold asStrA at hx; split at hx
  · injection hx with hx; subst hx; exact h
  · cases hx
theorem asBool_R {v : Value} {x : AV} {n : Bool} (h : LeafR w O I v x) (hx : asBoolA x = some n) : LeafR w O I v (.bool n) := by
  unfold asBoolA at hx; split at hx
  · injection hx with hx; subst hx; cases h; exact .bool _
  · injection hx with hx; subst hx; exact h
  · cases hx
theorem asInts_R {v : Value} {x : AV} {n : List Int} (h : LeafR w O I v x) (hx : asInts x = some n) : LeafR w O I v (.row .int n) := by
  unfold asInts at hx; split at hx
  · injection hx with hx; subst hx; cases h; exact .row0 _
  · injection hx with hx; subst hx; exact h
  · cases hx
theorem asAttrs_R {v : Value} {x : AV} {n : List At} (h : LeafR w O I v x) (hx : asAttrs x = some n) : LeafR w O I v (.row .attr n) := by
  unfold asAttrs at hx; split at hx
  · injection hx with hx; subst hx; cases h; exact .row0 _
  · injection hx with hx; subst hx; exact h
  · cases hx
theorem asNodes_R {v : Value} {x : AV} {n : List Nd} (h : LeafR w O I v x) (hx : asNodes x = some n) : LeafR w O I v (.row .node n) := by
  unfold asNodes at hx; split at hx
  · injection hx with hx; subst hx; cases h; exact .row0 _
  · injection hx with hx; subst hx; exact h
  · cases hx
theorem toNd_R {vs : List Value} {l : List AV} {n : Nd} (h : All2 (LeafR w O I) vs l) (hx : toNd l = some n) : All2 (LeafR w O I) vs (nodeL n) := by
  unfold toNd at hx
  split at hx
  · simp only [Option.bind_eq_some_iff] at hx
    obtain ⟨a, ha, b, hb, c, hc, d, hd, e, he, f, hf, hx⟩ := hx
    injection hx with hx; subst hx
    cases h with | cons h1 h => cases h with | cons h2 h => cases h with | cons h3 h => cases h with | cons h4 h => cases h with | cons h5 h => cases h with | cons h6 h =>
    cases h
    exact .cons (asInt_R h1 ha) (.cons (asInt_R h2 hb) (.cons (asStr_R h3 hc) (.cons (asAttrs_R h4 hd) (.cons (asStr_R h5 he) (.cons (asNodes_R h6 hf) .nil)))))
  · cases hx
theorem toEd_R {vs : List Value} {l : List AV} {n : Ed} (h : All2 (LeafR w O I) vs l) (hx : toEd l = some n) : All2 (LeafR w O I) vs (editL n) := by
  unfold toEd at hx
  split at hx
  · rename_i a b r
    simp only [Option.bind_eq_some_iff] at hx
    obtain ⟨a', ha, b', hb, o, ho, n', hn, hx⟩ := hx
    injection hx with hx; subst hx
    cases h with | cons h1 h => cases h with | cons h2 h =>
    rename_i v1 _ v2 r'
    refine .cons (asInt_R h1 ha) (.cons (asInts_R h2 hb) ?_)
    have := (toNd_R (h.take 6) ho).append (toNd_R (h.drop 6) hn)
    rwa [List.take_append_drop] at this
  · cases hx
theorem toPr_R {vs : List Value} {l : List AV} {n : Pr} (h : All2 (LeafR w O I) vs l) (hx : toPr l = some n) : All2 (LeafR w O I) vs (pairL n) := by
  unfold toPr at hx
  split at hx
  · simp only [Option.bind_eq_some_iff] at hx
    obtain ⟨a, ha, b, hb, c, hc, hx⟩ := hx
    injection hx with hx; subst hx
    cases h with | cons h1 h => cases h with | cons h2 h => cases h with | cons h3 h =>
    cases h
    exact .cons (asInt_R h1 ha) (.cons (asInt_R h2 hb) (.cons (asBool_R h3 hc) .nil))
  · cases hx
theorem toRv_R {vs : List Value} {l : List AV} {n : Rv} (h : All2 (LeafR w O I) vs l) (hx : toRv l = some n) : All2 (LeafR w O I) vs (revL n) := by
  unfold toRv at hx
  split at hx
  · simp only [Option.bind_eq_some_iff] at hx
    obtain ⟨a, ha, b, hb, c, hc, d, hd, hx⟩ := hx
    injection hx with hx; subst hx
    cases h with | cons h1 h => cases h with | cons h2 h => cases h with | cons h3 h => cases h with | cons h4 h =>
    cases h
    exact .cons (asInt_R h1 ha) (.cons (asStr_R h2 hb) (.cons (asInt_R h3 hc) (.cons (asInts_R h4 hd) .nil)))
  · cases hx
theorem toEn_R {vs : List Value} {l : List AV} {n : En} (h : All2 (LeafR w O I) vs l) (hx : toEn l = some n) : All2 (LeafR w O I) vs (entryL n) := by
  unfold toEn at hx
  split at hx
  · simp only [Option.bind_eq_some_iff] at hx
    obtain ⟨r, hr, e, he, f, hf, hx⟩ := hx
    injection hx with hx; subst hx
    cases h with | cons h1 h => cases h with | cons h2 h => cases h with | cons h3 h => cases h with | cons h4 h => cases h with | cons h5 h => cases h with | cons h6 h =>
    cases h
    exact (toRv_R (.cons h1 (.cons h2 (.cons h3 (.cons h4 .nil)))) hr).append (.cons (asBool_R h5 he) (.cons (asStr_R h6 hf) .nil))
  · cases hx
theorem toInt1_R {vs : List Value} {l : List AV} {n : Int} (h : All2 (LeafR w O I) vs l) (hx : toInt1 l = some n) : All2 (LeafR w O I) vs [.int .i64 n] := by
  unfold toInt1 at hx
  split at hx
  · cases h with | cons h1 h => cases h; exact .cons (asInt_R h1 hx) .nil
  · cases hx
theorem toStr1_R {vs : List Value} {l : List AV} {n : ByteArray} (h : All2 (LeafR w O I) vs l) (hx : toStr1 l = some n) : All2 (LeafR w O I) vs [.str n] := by
  unfold toStr1 at hx
  split at hx
  · cases h with | cons h1 h => cases h; exact .cons (asStr_R h1 hx) .nil
  · cases hx
theorem toInts1_R {vs : List Value} {l : List AV} {n : List Int} (h : All2 (LeafR w O I) vs l) (hx : toInts1 l = some n) : All2 (LeafR w O I) vs [.row .int n] := by
  unfold toInts1 at hx
  split at hx
  · cases h with | cons h1 h => cases h; exact .cons (asInts_R h1 hx) .nil
  · cases hx
theorem toNodes1_R {vs : List Value} {l : List AV} {n : List Nd} (h : All2 (LeafR w O I) vs l) (hx : toNodes1 l = some n) : All2 (LeafR w O I) vs [.row .node n] := by
  unfold toNodes1 at hx
  split at hx
  · cases h with | cons h1 h => cases h; exact .cons (asNodes_R h1 hx) .nil
  · cases hx
theorem asEdits_R {v : Value} {x : AV} {n : List Ed} (h : LeafR w O I v x) (hx : asEdits x = some n) : LeafR w O I v (.row .edit n) := by
  unfold asEdits at hx; split at hx
  · injection hx with hx; subst hx; cases h; exact .row0 _
  · injection hx with hx; subst hx; exact h
  · cases hx
theorem toEdits1_R {vs : List Value} {l : List AV} {n : List Ed} (h : All2 (LeafR w O I) vs l) (hx : toEdits1 l = some n) : All2 (LeafR w O I) vs [.row .edit n] := by
  unfold toEdits1 at hx
  split at hx
  · cases h with | cons h1 h => cases h; exact .cons (asEdits_R h1 hx) .nil
  · cases hx
theorem toU8_R {vs : List Value} {l : List AV} {n : Int} (h : All2 (LeafR w O I) vs l) (hx : toU8 l = some n) : All2 (LeafR w O I) vs [.int .u8 n] := by
  unfold toU8 at hx
  split at hx
  · injection hx with hx; subst hx; exact h
  · cases hx
theorem toAt_R {vs : List Value} {l : List AV} {n : At} (h : All2 (LeafR w O I) vs l) (hx : toAt l = some n) : All2 (LeafR w O I) vs [.str n.name, .str n.value] := by
  unfold toAt at hx
  split at hx
  · simp only [Option.bind_eq_some_iff] at hx
    obtain ⟨a, ha, b, hb, hx⟩ := hx
    injection hx with hx; subst hx
    cases h with | cons h1 h => cases h with | cons h2 h =>
    cases h
    exact .cons (asStr_R h1 ha) (.cons (asStr_R h2 hb) .nil)
  · cases hx
theorem toEl_R {t : Ty} {vs : List Value} {l : List AV} {x : den t} (h : All2 (LeafR w O I) vs l) (hx : toEl t l = some x) : All2 (LeafR w O I) vs (leaves t x) := by
  cases t with
  | node => exact toNd_R h hx
  | edit => exact toEd_R h hx
  | redit => exact toEd_R h hx
  | one => exact toEd_R h hx
  | pair => exact toPr_R h hx
  | rpair => exact toPr_R h hx
  | rev => exact toRv_R h hx
  | rrev => exact toRv_R h hx
  | entry => exact toEn_R h hx
  | rentry => exact toEn_R h hx
  | int => exact toInt1_R h hx
  | u8 => exact toU8_R h hx
  | str => exact toStr1_R h hx
  | attr => exact toAt_R h hx
  | ints => exact toInts1_R h hx
  | rest => exact toInts1_R h hx
  | nodes => exact toNodes1_R h hx
  | page => exact toNodes1_R h hx
  | edits => exact toEdits1_R h hx
  | bld => cases hx
  | fns =>
    have hx : toKf l = some x := hx
    unfold toKf at hx
    split at hx
    · injection hx with hx; subst hx; exact h
    · cases hx
  | two =>
    have hx : toTw l = some x := hx
    unfold toTw at hx
    split at hx
    · simp only [Option.bind_eq_some_iff] at hx
      obtain ⟨a, ha, b, hb, hx⟩ := hx
      injection hx with hx; subst hx
      cases h with | cons h1 h => cases h with | cons h2 h =>
      cases h
      exact .cons (asInt_R h1 ha) (.cons (asInt_R h2 hb) .nil)
    · cases hx
theorem chunks_R {t : Ty} : ∀ {n : Nat} {vs : List Value} {l : List AV} {xs : List (den t)}, All2 (LeafR w O I) vs l → l.length = n * width t → chunks t n l = some xs → xs.length = n ∧ All2 (LeafR w O I) vs (cellsOf t xs)
  | 0, vs, l, xs, h, hl, hx => by
    injection hx with hx; subst hx
    have : l = [] := List.eq_nil_of_length_eq_zero (by simpa using hl)
    subst this
    exact ⟨rfl, h⟩
  | n + 1, vs, l, xs, h, hl, hx => by
    simp only [chunks, Option.bind_eq_some_iff] at hx
    obtain ⟨x, h1, ys, h2, hx⟩ := hx
    injection hx with hx; subst hx
    have hl' : (l.drop (width t)).length = n * width t := by rw [List.length_drop, hl, Nat.add_mul]; omega
    obtain ⟨h3, h4⟩ := chunks_R (h.drop (width t)) hl' h2
    refine ⟨by simp [h3], ?_⟩
    have := (toEl_R (h.take (width t)) h1).append h4
    rw [List.take_append_drop] at this
    exact this
theorem width_pos (t : Ty) : 0 < width t := by cases t <;> decide
theorem castRow_eq {t u : Ty} {xs : List (den u)} {ys : List (den t)} (h : castRow t xs = some ys) : ∃ e : u = t, e ▸ xs = ys := by
  unfold castRow at h
  split at h
  · rename_i e _; injection h with h; exact ⟨e, h⟩
  · cases h
end

section
variable {tid : Env} {w0 w : World} {E F : Nat → Prop} {I : Im} {s : St} {a : Act}
theorem elems_R {t : Ty} {x : AV} {ys : List (den t)} {l : List Nat} (hR : Rel tid w0 E F I s a w) (h : (elems t x).run s.hp = some (ys, l)) {v : Value} (hv : ValR w (Own F I) I v x) :
    (v = .slice none 0 0 ∧ ys = []) ∨ ∃ ad c, ∃ vs : List Value, v = .slice (some ad) ys.length c ∧ (∀ (j : Nat) (u : Value), vs[j]? = some u → w.cell? (ad.add j) = some u) ∧ All2 (LeafR w (Own F I) I) vs (cellsOf t ys) := by
  unfold elems at h
  split at h
  · obtain ⟨h1, _⟩ := run_ret h
    subst h1
    exact .inl ⟨hv.nil, rfl⟩
  · obtain ⟨h1, _⟩ := run_ret h
    subst h1
    cases (show LeafR w (Own F I) I v .zrow from hv) with
    | zrow ad c => exact .inr ⟨ad, c, [], rfl, fun j u hu => by simp at hu, .nil⟩
  · rename_i u xs
    obtain ⟨h1, _⟩ := run_of h
    obtain ⟨e, he⟩ := castRow_eq h1
    subst e
    have he : xs = ys := he
    subst he
    have hl : LeafR w (Own F I) I v (.row u xs) := hv
    rcases hl.row_any with h | ⟨b, off, c, rfl, _⟩ | ⟨ad, c, rfl, h0⟩
    · exact .inl h
    · obtain ⟨vs, h1, h2⟩ := hl.row_cells
      exact .inr ⟨_, c, vs, rfl, fun j u hu => by rw [add_none]; exact h1 j u hu, h2⟩
    · subst h0; exact .inr ⟨ad, c, [], rfl, fun j u hu => by simp at hu, .nil⟩
  · rename_i id n
    obtain ⟨l', h, _⟩ := run_ask h
    have hp := hR.hp id
    split at h
    · rename_i m u xs hb
      rw [hb] at hp
      obtain ⟨l0, hl0, v', vs, rfl, hmx, hown, hall⟩ := hp
      split at h
      · rename_i hm
        obtain ⟨h1, _⟩ := run_of h
        obtain ⟨e, he⟩ := castRow_eq h1
        subst e
        have he : xs = ys := he
        subst he
        have := (hv.own.2.2 _ _ _ hl0).2 (Nat.eq_of_beq_eq_true hm).symm
        subst this
        rcases hown.2 with ⟨rfl, h0⟩ | ⟨g, cap, cur, rfl, _⟩
        · exact .inl ⟨rfl, List.eq_nil_of_length_eq_zero h0⟩
        · exact .inr ⟨_, cap, vs, rfl, fun j u hu => hown.cells (g := g) rfl _ _ hu, hall⟩
      · exact (run_fail h).elim
    · exact (run_fail h).elim
  · exact (run_fail h).elim

theorem Rel.box (hR : Rel tid w0 E F I s a w) {fr : Nat} (hf : s.hp.getD fr none = none) (hl : fr < s.hp.length) {cs : Array Value} {as : List AV} (ty : TypeId) (h : All2 (LeafR w (Own F I) I) cs.toList as) :
    Rel tid w0 E F (iup I fr (.box w.heap.size)) ⟨s.tm, s.hp.set fr (some (.box as))⟩ a (w.alloc (.cells cs ty)) := by
  have hI : I fr = none := by have := hR.hp fr; rw [hf] at this; exact this
  refine hR.upd hl (fun l0 h0 => by rw [hI] at h0; cases h0) (fun g hg _ => heap_alloc_old w _ g hg) (fun g hg => ?_) rfl rfl rfl (by simp) (fun hm => ?_)
  · have : g = w.heap.size := hg
    subst this
    exact ⟨.inr (Nat.le_refl _), by simp⟩
  · exact ⟨_, cs, ty, rfl, heap_alloc_new w _, h.mono fun _ _ h => hm _ _ h⟩
theorem Rel.rowNew (hR : Rel tid w0 E F I s a w) {fr : Nat} (hf : s.hp.getD fr none = none) (hl : fr < s.hp.length) {t : Ty} {xs : List (den t)} {w' : World} {v : Value} {vs : List Value} (hg : w.grownBy w' none) (hmx : xs.length ≤ maxSl)
    (hown : w'.ownsRow w.heap.size (tid t) (width t) v xs.length vs) (hall : All2 (LeafR w (Own F I) I) vs (cellsOf t xs)) (n : Nat) :
    Rel tid w0 E F (iup I fr (.row n t v)) ⟨s.tm, s.hp.set fr (some (.rowb n t xs))⟩ a w' := by
  have hI : I fr = none := by have := hR.hp fr; rw [hf] at this; exact this
  refine hR.upd hl (fun l0 h0 => by rw [hI] at h0; cases h0) (fun g hg' _ => hg.block g hg' (fun e => nomatch e)) (fun g hg' => ?_) hg.os hg.tape hg.output hg.size (fun hm => ?_)
  · exact ⟨.inr (hown.lt g hg').1, (hown.lt g hg').2⟩
  · refine ⟨v, vs, rfl, hmx, ?_, hall.mono fun _ _ h => hm _ _ h⟩
    refine ⟨hown.1, ?_⟩
    rcases hown.2 with h | ⟨g, cap, cur, h1, h2, h3⟩
    · exact .inl h
    · exact .inr ⟨g, cap, cur, h1, Nat.zero_le _, h3⟩
end
end Go.Proofs.YtnhipiedjekkpaaGreatDoor.AX
end
section
namespace Go.Proofs.YtnhipiedjekkpaaGreatDoor.AX
open Go Go.RowKit

def Fresh (hp : List (Option Blk)) (fr : Nat) : Prop := ∀ j, j < 4 → hp.getD (fr + j) none = none ∧ fr + j < hp.length

section
variable {cx : Cx} {w0 w : World} {E F : Nat → Prop} {I : Im} {s : St} {a : Act} {o : Oper} {next : Act → World → Prop} {Q : Exit → Act → World → Prop} {e : Eff} {l : List Nat} {fr : Nat}

theorem fin_put {I' : Im} {w' : World} {v : Value} (hR : Rel cx.tid w0 E F I' ⟨s.tm, setAll s.hp e.sets⟩ a w') (hv : ValR w' (Own F I') I' v e.dst) : Rel cx.tid w0 E F I' (stepSt s o.dst e) (a.put o.dst v) w' := by
  have := hR.put o.dst hv
  exact this

theorem Rel.free (hR : Rel cx.tid w0 E F I s a w) {k : Nat} (h : s.hp.getD k none = none) : I k = none := by
  have := hR.hp k; rw [h] at this; exact this

theorem ptr_new {w : World} {O : Nat → Prop} {I : Im} {fr g : Nat} (h : I fr = some (.box g)) : LeafR w O I (.pointer (some ⟨g, 0, none⟩)) (.ptr fr 0) :=
  .ptr _ _ _ (by rw [h]; rfl) rfl (fun b hb => by rw [h] at hb; injection hb with hb; injection hb with hb; subst hb; rfl) (fun b u hb _ => by rw [h] at hb; injection hb with hb; cases hb)
theorem own_new {w : World} {O : Nat → Prop} {I : Im} {fr n : Nat} {t : Ty} {v : Value} (h : I fr = some (.row n t v)) (h1 : v.oneCell' = true) : LeafR w O I v (.own fr n) :=
  .own _ _ _ (by rw [h]; rfl) h1 (fun m t' u hb => by rw [h] at hb; injection hb with hb; injection hb with e1 e2 e3; subst e1; subst e3; exact ⟨Nat.le_refl _, fun _ => rfl⟩)
theorem bld_new {w : World} {O : Nat → Prop} {I : Im} {fr g : Nat} {v : Value} (h : I fr = some (.bld g v)) : LeafR w O I (.pointer (some ⟨g, 0, none⟩)) (.ptr fr 0) :=
  .ptr _ _ _ (by rw [h]; rfl) rfl (fun b hb => by rw [h] at hb; injection hb with hb; cases hb) (fun b u hb _ => by rw [h] at hb; injection hb with hb; injection hb with hb; subst hb; rfl)

theorem op_alloc (ok : CxOK cx) (el : TypeId) (ho : o.op = .alloc el) (hR : Rel cx.tid w0 E F I s a w) (hf : Fresh s.hp fr) (hrun : (effOp cx o fr (evalA cx.tid.glob s)).run s.hp = some (e, l))
    (hn : ∀ I' a' w', Rel cx.tid w0 E F I' (stepSt s o.dst e) a' w' → givenP e → next a' w') : o.wp cx.P a w next Q := by
  simp only [effOp, ho] at hrun
  obtain ⟨f0, g0⟩ := hf 0 (by omega)
  obtain ⟨f1, g1⟩ := hf 1 (by omega)
  simp only [Nat.add_zero] at f0 g0
  have exec : ∀ (i : TypeInfo) (z : Value), cx.P.info? el = some i → i.zero = some z → (execOp a.eval o).run cx.P w = .ok (.value (.pointer (some ⟨w.heap.size, 0, none⟩))) (w.alloc (.cells z.cells el)) := by
    intro i z hi hz
    simp [execOp, ho, Instr.alloc, zeroValue, typeInfo, hi, hz, newVar, newRow]
  split at hrun
  · rename_i hb
    obtain ⟨rfl, _⟩ := run_ret hrun
    obtain ⟨hty, i, hi, hz⟩ := ok.bld _ hb
    refine wp_of_value (exec i _ hi hz) (hn (iup I fr (.bld w.heap.size (.slice none 0 0))) _ _ (fin_put ?_ (.leaf (bld_new (iup_same _ _ _)))) (by exact trivial))
    have hI : I fr = none := hR.free f0
    refine hR.upd g0 (fun l0 h0 => by rw [hI] at h0; cases h0) (fun g hg _ => heap_alloc_old w _ g hg) (fun g hg => ?_) rfl rfl rfl (by simp) (fun _ => ?_)
    · have : g = w.heap.size := by rcases hg with h | h; exact h; cases h
      subst this
      exact ⟨.inr (Nat.le_refl _), by simp⟩
    · exact ⟨_, _, _, el, [], rfl, hty, heap_alloc_new w _, .inl rfl, fun h => (nomatch h), ⟨rfl, .inl ⟨rfl, rfl⟩⟩, rfl, fun _ => rfl⟩
  · obtain ⟨z, _, _, h1, h2, _⟩ := run_bind hrun
    obtain ⟨i, zv, hi, hz, hzr⟩ := zeros_R (w := w) (O := Own F I) (I := I) (run_of h1).1
    split at h2
    · rename_i t hgt
      obtain ⟨rfl, _⟩ := run_ret h2
      have hR1 := hR.rowNew (w' := w) (v := .slice none 0 0) (vs := []) (t := t) (xs := []) f1 g1 ⟨rfl, rfl, rfl, Nat.le_refl _, fun _ _ _ => rfl⟩ (by simp [maxSl]) (World.ownsRow_nil _ _ _ _) .nil 0
      have hne : fr ≠ fr + 1 := by omega
      have hR2 := hR1.box (fr := fr) (cs := zv.cells) (as := [.own (fr + 1) 0]) (by show (s.hp.set (fr + 1) _).getD fr none = none; rw [getD_set_ne hne]; exact f0) (by show fr < (s.hp.set (fr + 1) _).length; simpa using g0) el (by
        generalize zv.cells.toList = zl at hzr
        cases hzr with | cons h3 h4 =>
        cases h4
        cases h3
        exact .cons (own_new (iup_same _ _ _) rfl) .nil)
      refine wp_of_value (exec i _ hi hz) (hn _ _ _ (fin_put hR2 (.leaf (ptr_new (iup_same _ _ _)))) (by exact trivial))
    · obtain ⟨rfl, _⟩ := run_ret h2
      exact wp_of_value (exec i _ hi hz) (hn _ _ _ (fin_put (hR.box f0 g0 el hzr) (.leaf (ptr_new (iup_same _ _ _)))) (by exact trivial))

theorem op_box (el : TypeId) (x : Operand) (ho : o.op = .box el x) (hR : Rel cx.tid w0 E F I s a w) (hf : Fresh s.hp fr) (hrun : (effOp cx o fr (evalA cx.tid.glob s)).run s.hp = some (e, l))
    (hn : ∀ I' a' w', Rel cx.tid w0 E F I' (stepSt s o.dst e) a' w' → givenP e → next a' w') : o.wp cx.P a w next Q := by
  simp only [effOp, ho] at hrun
  obtain ⟨f0, g0⟩ := hf 0 (by omega)
  simp only [Nat.add_zero] at f0 g0
  obtain ⟨z, _, _, h1, h2, _⟩ := run_bind hrun
  have exec : (execOp a.eval o).run cx.P w = .ok (.value (.pointer (some ⟨w.heap.size, 0, none⟩))) (w.alloc (.cells (a.eval x).cells el)) := by
    simp [execOp, ho, Instr.box, newVar, newRow]
  have hzr := cells_R (hR.ev x) (run_of h1).1
  split at h2
  · rename_i t hgt
    obtain ⟨f1, g1⟩ := hf 1 (by omega)
    obtain ⟨rfl, _⟩ := run_ret h2
    have hR1 := hR.rowNew (w' := w) (v := .slice none 0 0) (vs := []) (t := t) (xs := []) f1 g1 ⟨rfl, rfl, rfl, Nat.le_refl _, fun _ _ _ => rfl⟩ (by simp [maxSl]) (World.ownsRow_nil _ _ _ _) .nil 0
    have hne : fr ≠ fr + 1 := by omega
    have hR2 := hR1.box (fr := fr) (cs := (a.eval x).cells) (as := [.own (fr + 1) 0]) (by show (s.hp.set (fr + 1) _).getD fr none = none; rw [getD_set_ne hne]; exact f0) (by show fr < (s.hp.set (fr + 1) _).length; simpa using g0) el (by
      generalize (a.eval x).cells.toList = zl at hzr
      cases hzr with | cons h3 h4 =>
      cases h4
      cases h3
      exact .cons (own_new (iup_same _ _ _) rfl) .nil)
    exact wp_of_value exec (hn _ _ _ (fin_put hR2 (.leaf (ptr_new (iup_same _ _ _)))) (by exact trivial))
  · obtain ⟨rfl, _⟩ := run_ret h2
    exact wp_of_value exec (hn _ _ _ (fin_put (hR.box f0 g0 el hzr) (.leaf (ptr_new (iup_same _ _ _)))) (by exact trivial))

theorem Rel.setBox (hR : Rel cx.tid w0 E F I s a w) {id g : Nat} {cells : List AV} {cs cs' : Array Value} {as : List AV} {ty : TypeId} (hb : s.hp.getD id none = some (.box cells)) (hl : I id = some (.box g))
    (hg : w.heap[g]? = some (.cells cs ty (0, 0))) (h : All2 (LeafR w (Own F I) I) cs'.toList as) : Rel cx.tid w0 E F I ⟨s.tm, s.hp.set id (some (.box as))⟩ a (w.setRow g cs') := by
  have hid : id < s.hp.length := by
    rcases Nat.lt_or_ge id s.hp.length with h' | h'
    · exact h'
    · rw [List.getD_eq_getElem?_getD, List.getElem?_eq_none h'] at hb; cases hb
  have hI : iup I id (.box g) = I := by
    funext k; unfold iup; by_cases e : k = id
    · subst e; rw [if_pos rfl, hl]
    · rw [if_neg e]
  have := hR.upd (id := id) (l := .box g) (b := .box as) (w' := w.setRow g cs') hid (fun l0 h0 => by rw [hl] at h0; injection h0 with h0; exact .inl h0)
    (fun k hk hn => setRow_other w g k cs' (fun e => by subst e; exact hn _ hl rfl)) (fun k hk => ⟨.inl ⟨_, hl, hk⟩, by
      have hk : k = g := hk
      subst hk
      rw [size_setRow]; exact (Array.getElem?_eq_some_iff.1 hg).1⟩) rfl rfl rfl (by simp)
    (fun hm => ⟨g, cs', ty, rfl, setRow_heap w g cs cs' ty _ hg, h.mono fun _ _ h => hm _ _ h⟩)
  rw [hI] at this
  exact this

theorem ones_of {w : World} {O : Nat → Prop} {I : Im} {vs : List Value} {as : List AV} (h : All2 (LeafR w O I) vs as) : ∀ v ∈ vs, v.oneCell' = true := fun v hv => by
  obtain ⟨b, _, hr⟩ := h.mem hv; exact hr.one
theorem list_val {w : World} {O : Nat → Prop} {I : Im} {vs : List Value} {as : List AV} (h : All2 (LeafR w O I) vs as) : All2 (ValR w O I) vs as := h.mono fun _ _ h => .leaf h
theorem isLeaf_still {s : St} {x y : AV} {sets : List (Nat × Blk)} {l : List Nat} (h : (still x).run s.hp = some ((y, sets), l)) (hx : isLeaf x = true ∨ x = .any) : isLeaf y = true ∨ y = .any := by
  unfold still at h
  split at h
  · obtain ⟨l', h, _⟩ := run_ask h
    split at h
    · split at h
      · obtain ⟨h1, _⟩ := run_ret h
        injection h1 with h1 _
        subst h1
        exact .inl rfl
      · exact (run_fail h).elim
    · exact (run_fail h).elim
  · obtain ⟨h1, _⟩ := run_ret h
    injection h1 with h1 _
    subst h1
    exact hx
theorem LeafR.isLeaf {w : World} {O : Nat → Prop} {I : Im} {v : Value} {x : AV} (h : LeafR w O I v x) : isLeaf x = true ∨ x = .any := by
  cases h <;> first | exact .inl rfl | exact .inr rfl
theorem leaf_of {w : World} {O : Nat → Prop} {I : Im} {v : Value} {x : AV} (h : ValR w O I v x) (hl : isLeaf x = true ∨ x = .any) (h1 : v.oneCell' = true) : LeafR w O I v x := by
  rcases hl with hl | rfl
  · exact h.leaf' (fun fs e => by subst e; cases hl) (fun vs e => by subst e; cases hl) (fun e => by subst e; cases hl)
  · exact .any _ h1
theorem stills_leaf {s : St} : ∀ {xs ys : List AV} {sets : List (Nat × Blk)} {l : List Nat}, (stills xs).run s.hp = some ((ys, sets), l) → (∀ x ∈ xs, isLeaf x = true ∨ x = .any) → ∀ y ∈ ys, isLeaf y = true ∨ y = .any
  | [], ys, sets, l, h, _ => by
    obtain ⟨h1, _⟩ := run_ret h
    injection h1 with h1 _
    subst h1
    exact fun y hy => (nomatch hy)
  | x :: xs, ys, sets, l, h, hx => by
    simp only [stills] at h
    obtain ⟨⟨y, s1⟩, _, _, h1, h2, _⟩ := run_bind h
    obtain ⟨⟨ys', s2⟩, _, _, h3, h4, _⟩ := run_bind h2
    obtain ⟨h5, _⟩ := run_ret h4
    injection h5 with h5 _
    subst h5
    intro z hz
    cases hz with
    | head => exact isLeaf_still h1 (hx x (.head _))
    | tail _ hz => exact stills_leaf h3 (fun x hx' => hx x (.tail _ hx')) z hz
theorem stills_R (hR : Rel cx.tid w0 E F I s a w) {xs ys : List AV} {sets : List (Nat × Blk)} {l : List Nat} (h : (stills xs).run s.hp = some ((ys, sets), l)) {vs : List Value} (hv : All2 (LeafR w (Own F I) I) vs xs) :
    ∃ ids, sets = deads ids ∧ (∀ id ∈ ids, ∃ b, s.hp.getD id none = some b) ∧ Rel cx.tid w0 E F (kill I ids) ⟨s.tm, setAll s.hp (deads ids)⟩ a w ∧ All2 (LeafR w (Own F (kill I ids)) (kill I ids)) vs ys := by
  obtain ⟨ids, h1, h2, h3⟩ := stills_run (tid := cx.tid) h
  have hs := h3 _ _ _ _ _ _ ids hR (fun _ h => h) _ (list_val hv)
  refine ⟨ids, h1, h2, Rel.kill ids hR fun id hid => by obtain ⟨b, hb⟩ := h2 id hid; exact hR.some_of hb, ?_⟩
  have hlf := stills_leaf h (fun x hx => by
    obtain ⟨j, hj⟩ := List.getElem?_of_mem hx
    obtain ⟨v, _, hr⟩ := hv.get hj
    exact hr.isLeaf)
  have hone := ones_of hv
  refine .of hs.length fun i v x hv' hx' => ?_
  obtain ⟨x', hx2, hr⟩ := hs.get' hv'
  rw [hx'] at hx2; injection hx2 with hx2; subst hx2
  exact leaf_of hr (hlf x (List.mem_of_getElem? hx')) (hone v (List.mem_of_getElem? hv'))

theorem Fresh.kill {hp : List (Option Blk)} {fr : Nat} (hf : Fresh hp fr) {ids : List Nat} (h : ∀ id ∈ ids, ∃ b, hp.getD id none = some b) : Fresh (setAll hp (deads ids)) fr := by
  induction ids generalizing hp with
  | nil => exact hf
  | cons id ids ih =>
    have hne : ∀ j, j < 4 → fr + j ≠ id := fun j hj e => by
      obtain ⟨b, hb⟩ := h id (.head _)
      rw [← e, (hf j hj).1] at hb; cases hb
    refine ih (fun j hj => ⟨?_, by simpa using (hf j hj).2⟩) (fun k hk => ?_)
    · rw [getD_set_ne (hne j hj)]; exact (hf j hj).1
    · by_cases e : k = id
      · subst e
        have : k < hp.length := by
          rcases Nat.lt_or_ge k hp.length with h' | h'
          · exact h'
          · obtain ⟨b, hb⟩ := h k (.head _)
            rw [List.getD_eq_getElem?_getD, List.getElem?_eq_none h'] at hb; cases hb
        exact ⟨_, getD_set_same this _⟩
      · rw [getD_set_ne e]; exact h k (.tail _ hk)

theorem setAll_deads_get {hp : List (Option Blk)} {id : Nat} {ids : List Nat} (h : id ∉ ids) : (setAll hp (deads ids)).getD id none = hp.getD id none := by
  induction ids generalizing hp with
  | nil => rfl
  | cons j ids ih =>
    have hne : id ≠ j := fun e => h (by rw [e]; exact .head _)
    have := ih (hp := hp.set j (some .dead)) (fun hm => h (.tail _ hm))
    rw [getD_set_ne hne] at this
    exact this
theorem setAll_set_comm {hp : List (Option Blk)} {fr : Nat} {b : Blk} {ids : List Nat} (h : fr ∉ ids) : setAll (hp.set fr (some b)) (deads ids) = (setAll hp (deads ids)).set fr (some b) := by
  induction ids generalizing hp with
  | nil => rfl
  | cons id ids ih =>
    have h1 : fr ≠ id := fun e => h (by rw [e]; exact .head _)
    show setAll ((hp.set fr (some b)).set id (some .dead)) (deads ids) = (setAll (hp.set id (some .dead)) (deads ids)).set fr (some b)
    rw [List.set_comm _ _ h1]
    exact ih (fun hm => h (.tail _ hm))

theorem cellsOf_set {t : Ty} {xs : List (den t)} {i : Nat} (hi : i < xs.length) (y : den t) : cellsOf t (xs.set i y) = (cellsOf t xs).take (i * width t) ++ leaves t y ++ (cellsOf t xs).drop (i * width t + width t) := by
  induction xs generalizing i with
  | nil => simp at hi
  | cons x xs ih =>
    cases i with
    | zero =>
      unfold cellsOf
      simp [List.drop_append, leaves_length, List.drop_of_length_le (l := leaves t x) (i := width t) (by rw [leaves_length]; omega)]
    | succ i =>
      have h := ih (i := i) (by simpa using hi)
      unfold cellsOf at *
      have e1 : (i + 1) * width t = width t + i * width t := by rw [Nat.add_mul]; omega
      simp only [List.set_cons_succ, List.flatMap_cons, h, e1, List.take_append, leaves_length]
      rw [List.take_of_length_le (l := leaves t x) (by rw [leaves_length]; omega), Nat.add_sub_cancel_left, Nat.add_assoc, List.drop_append, leaves_length, List.drop_of_length_le (l := leaves t x) (by rw [leaves_length]; omega), Nat.add_sub_cancel_left]
      simp [List.append_assoc]

theorem splice_eq {α : Type} (vs new : List α) (i z off : Nat) (h : off + new.length ≤ z) (hv : i + z ≤ vs.length) : vs.take i ++ (((vs.drop i).take z).take off ++ new ++ ((vs.drop i).take z).drop (off + new.length)) ++ vs.drop (i + z) = vs.take (i + off) ++ new ++ vs.drop (i + off + new.length) := by
  apply List.ext_getElem?
  intro k
  simp only [List.getElem?_append, List.length_take, List.length_drop, List.length_append, List.getElem?_take, List.getElem?_drop]
  grind
theorem Rel.setRowEl (hR : Rel cx.tid w0 E F I s a w) {id m g off : Nat} {c : Nat} {ty : Ty} {xs : List (den ty)} {i : Nat} {y : den ty} {new : List Value} {ws as : List AV} (hb : s.hp.getD id none = some (.rowb m ty xs))
    (hl : I id = some (.row m ty (.slice (some ⟨g, 0, none⟩) xs.length c))) (hi : i < xs.length) (hnew : All2 (LeafR w (Own F I) I) new ws) (hput : putL (leaves ty xs[i]) ws off = some as) (hy : toEl ty as = some y) :
    ∃ cs : Array Value, w.heap[g]? = some (.cells cs (cx.tid ty) (0, 0)) ∧ (i * width ty + off) + new.length ≤ cs.size ∧
      Rel cx.tid w0 E F I ⟨s.tm, s.hp.set id (some (.rowb m ty (xs.set i y)))⟩ a (w.setRow g (cs.toList.take (i * width ty + off) ++ new ++ cs.toList.drop (i * width ty + off + new.length)).toArray) := by
  have hp := hR.hp id
  rw [hb] at hp
  obtain ⟨l0, hl0, v, vs, rfl, hmx, hown, hall⟩ := hp
  rw [hl] at hl0
  injection hl0 with hl0
  injection hl0 with _ _ hl0
  subst hl0
  have hid : id < s.hp.length := by
    rcases Nat.lt_or_ge id s.hp.length with h' | h'
    · exact h'
    · rw [List.getD_eq_getElem?_getD, List.getElem?_eq_none h'] at hb; cases hb
  rcases hown.2 with ⟨h, _⟩ | ⟨g', cap, cur, hv, _, hg, hn, hcm, hcs, htake⟩
  · cases h
  injection hv with e1 e2 e3
  injection e1 with e1
  injection e1 with e1
  subst e1; subst e3
  unfold putL at hput
  split at hput
  case isFalse => cases hput
  rename_i hle
  have hle := Nat.le_of_ble_eq_true hle
  rw [leaves_length] at hle
  injection hput with hput
  have hnl := hnew.length
  have hbound : i * width ty + width ty ≤ xs.length * width ty := by
    have := Nat.mul_le_mul_right (width ty) hi
    rw [Nat.succ_mul] at this; exact this
  have hcap : xs.length * width ty ≤ c * width ty := Nat.mul_le_mul_right _ hn
  refine ⟨cur, hg, by rw [hcs]; omega, ?_⟩
  have hI : iup I id (.row m ty (.slice (some ⟨g, 0, none⟩) xs.length c)) = I := by
    funext k; unfold iup; by_cases e : k = id
    · subst e; rw [if_pos rfl, hl]
    · rw [if_neg e]
  have hel : All2 (LeafR w (Own F I) I) (((vs.drop (i * width ty)).take (width ty)).take off ++ new ++ ((vs.drop (i * width ty)).take (width ty)).drop (off + new.length)) (leaves ty y) := by
    refine toEl_R ?_ hy
    rw [← hput, ← flat_at hi, hnl]
    have h1 := (hall.drop (i * width ty)).take (width ty)
    exact ((h1.take off).append hnew).append (h1.drop _)
  have hvl : vs.length = xs.length * width ty := hown.1
  have hnewvs : vs.take (i * width ty) ++ (((vs.drop (i * width ty)).take (width ty)).take off ++ new ++ ((vs.drop (i * width ty)).take (width ty)).drop (off + new.length)) ++ vs.drop (i * width ty + width ty) =
      vs.take (i * width ty + off) ++ new ++ vs.drop (i * width ty + off + new.length) := splice_eq vs new _ _ _ (by omega) (by omega)
  have := hR.upd (id := id) (l := .row m ty (.slice (some ⟨g, 0, none⟩) xs.length c)) (b := .rowb m ty (xs.set i y)) (w' := w.setRow g (cur.toList.take (i * width ty + off) ++ new ++ cur.toList.drop (i * width ty + off + new.length)).toArray) hid
    (fun l0 h0 => by rw [hl] at h0; injection h0 with h0; exact .inl h0)
    (fun k hk hn => setRow_other w g k _ (fun e => by subst e; exact hn _ hl rfl))
    (fun k hk => ⟨.inl ⟨_, hl, hk⟩, by
      have hk : some g = some k := hk
      injection hk with hk
      subst hk
      rw [size_setRow]; exact (Array.getElem?_eq_some_iff.1 hg).1⟩) rfl rfl rfl (by simp)
    (fun hm => ⟨_, vs.take (i * width ty + off) ++ new ++ vs.drop (i * width ty + off + new.length), rfl, by simpa using hmx, ⟨by simp; omega, .inr ⟨g, c, _, by simp, Nat.zero_le _, setRow_heap w g cur _ _ _ hg, by simpa using hn, hcm, by simp; omega, ?_⟩⟩, by
      rw [cellsOf_set hi, ← hnewvs]
      exact ((((hall.take _).append hel).append (hall.drop _)).mono fun _ _ h => hm _ _ h)⟩)
  · rw [hI] at this
    exact this
  · simp only [List.length_set]
    rw [← htake]
    apply List.ext_getElem?
    intro k
    simp only [List.getElem?_append, List.length_take, List.length_drop, List.length_append, List.getElem?_take, List.getElem?_drop, List.toList_toArray]
    grind

theorem op_store (t : TypeId) (x y : Operand) (ho : o.op = .store t x y) (hR : Rel cx.tid w0 E F I s a w) (hrun : (effOp cx o fr (evalA cx.tid.glob s)).run s.hp = some (e, l))
    (hn : ∀ I' a' w', Rel cx.tid w0 E F I' (stepSt s o.dst e) a' w' → givenP e → next a' w') : o.wp cx.P a w next Q := by
  simp only [effOp, ho] at hrun
  have hx := hR.ev x
  obtain ⟨vs, _, _, h1, h2, _⟩ := run_bind hrun
  obtain ⟨n, _, _, h3, h4, _⟩ := run_bind h2
  have hcv := cells_R (hR.ev y) (run_of h1).1
  split at h4
  case isFalse => exact (run_fail h4).elim
  rename_i hsz
  have hsz := Nat.eq_of_beq_eq_true hsz
  have hlen := hcv.length
  simp only [Array.length_toList] at hlen
  have exec : ∀ (g off : Nat) (cs : Array Value) (ty : TypeId), a.eval x = .pointer (some ⟨g, off, none⟩) → w.heap[g]? = some (.cells cs ty (0, 0)) → off + (a.eval y).cells.size ≤ cs.size →
      (execOp a.eval o).run cx.P w = .ok .skip (w.setRow g (cs.toList.take off ++ (a.eval y).cells.toList ++ cs.toList.drop (off + (a.eval y).cells.size)).toArray) := by
    intro g off cs ty hv hg hle
    have hst := run_storeCells_at cx.P g off ty (a.eval y).cells.toList 0 cs w hg (by simpa using hle) (ones_of hcv)
    simp only [Nat.add_zero, Array.length_toList] at hst
    have hz : (a.eval y).cells.size = n := by omega
    simp only [execOp, ho, hv, Instr.storeAt, Instr.sureAddr, storeVar, Sem.run_bind, Sem.run_pure, Result.andThen_ok, sizeT_run (run_of h3).1, hz, ne_eq, not_true, if_false, ite_false]
    rw [hst, ← hz]
    rfl
  split at h4
  · rename_i id off hid
    rw [hid] at hx
    obtain ⟨l', h4, _⟩ := run_ask h4
    have hp := hR.hp id
    split at h4
    · rename_i cells hb
      rw [hb] at hp
      obtain ⟨l0, hl0, g, cs, ty, rfl, hg, hall⟩ := hp
      obtain ⟨as, _, _, h5, h6, _⟩ := run_bind h4
      obtain ⟨rfl, _⟩ := run_ret h6
      have h5 := (run_of h5).1
      unfold putL at h5
      split at h5
      · rename_i hle
        have hle := Nat.le_of_ble_eq_true hle
        injection h5 with h5; subst h5
        have hl2 := hall.length
        simp only [Array.length_toList] at hl2
        refine wp_of_skip (exec g off cs ty (hx.ptr.2.2.1 g hl0) hg (by omega)) (hn I _ _ (fin_put (e := _) (hR.setBox hb hl0 hg ?_) (by exact trivial)) (by exact trivial))
        simp only [List.toList_toArray] 
        rw [hlen]
        exact ((hall.take _).append hcv).append (hall.drop _)
      · cases h5
    · exact (run_fail h4).elim
  · rename_i id n' i off hid
    rw [hid] at hx
    obtain ⟨⟨ws, sets⟩, _, _, h5, h6, _⟩ := run_bind h4
    obtain ⟨ids, rfl, hids, hRk, hws⟩ := stills_R hR h5 hcv
    simp only at h6
    split at h6
    · exact (run_fail h6).elim
    rename_i hni
    have hni : id ∉ ids := fun hm => hni (by
      simp only [deads, List.any_eq_true, List.mem_map]
      exact ⟨(id, .dead), ⟨id, hm, rfl⟩, by simp⟩)
    obtain ⟨l', h6, _⟩ := run_ask h6
    split at h6
    · rename_i m ty xs hb
      split at h6
      case isFalse => exact (run_fail h6).elim
      rename_i hm
      have hm := (Nat.eq_of_beq_eq_true hm).symm
      obtain ⟨as, _, _, h7, h8, _⟩ := run_bind h6
      obtain ⟨y', _, _, h9, h10, _⟩ := run_bind h8
      obtain ⟨rfl, _⟩ := run_ret h10
      have hp := hR.hp id
      rw [hb] at hp
      obtain ⟨l0, hl0, v, vs', rfl, hmx, hown, hall⟩ := hp
      obtain ⟨h0, g, k, c, hik, hvv, hv⟩ := (hx.optr.2.2 _ _ _ hl0).2 hm
      subst hvv
      have hkl : k = xs.length := by
        rcases hown.2 with ⟨h, _⟩ | ⟨_, _, _, h, _⟩
        · cases h
        · injection h
      subst hkl
      have hbk : (setAll s.hp (deads ids)).getD id none = some (.rowb m ty xs) := by rw [setAll_deads_get hni]; exact hb
      have hlk : kill I ids id = some (.row m ty (.slice (some ⟨g, 0, none⟩) xs.length c)) := by unfold kill; rw [if_neg hni, hl0]
      obtain ⟨cs, hg, hle, hfin⟩ := hRk.setRowEl (i := i.toNat) (off := off) (y := y') hbk hlk hik hws (by rw [← rd_eq hik]; exact (run_of h7).1) (run_of h9).1
      rw [Array.length_toList] at hle hfin
      refine wp_of_skip (exec g (i.toNat * width ty + off) cs _ hv hg hle) (hn (kill I ids) _ _ (fin_put (e := _) ?_ (by exact trivial)) (by exact trivial))
      have he : setAll s.hp (deads ids ++ [(id, .rowb m ty (xs.set i.toNat y'))]) = (setAll s.hp (deads ids)).set id (some (.rowb m ty (xs.set i.toNat y'))) := by rw [setAll_append]; rfl
      rw [he]
      exact hfin
    · exact (run_fail h6).elim
  · exact (run_fail h4).elim
end
end Go.Proofs.YtnhipiedjekkpaaGreatDoor.AX
end
section
namespace Go.Proofs.YtnhipiedjekkpaaGreatDoor.AX
open Go Go.RowKit

section
variable {cx : Cx} {w0 w : World} {E F : Nat → Prop} {I : Im} {s : St} {a : Act} {o : Oper} {next : Act → World → Prop} {Q : Exit → Act → World → Prop} {e : Eff} {l : List Nat} {fr : Nat}

theorem fresh_notin {hp : List (Option Blk)} (hf : Fresh hp fr) {ids : List Nat} (h : ∀ id ∈ ids, ∃ b, hp.getD id none = some b) : fr ∉ ids := fun hm => by
  obtain ⟨b, hb⟩ := h fr hm
  have := (hf 0 (by omega)).1
  simp only [Nat.add_zero] at this
  rw [this] at hb; cases hb

theorem run_buildSlice0 {P : Program} (w : World) (t e : TypeId) (parts : Array (Nat × Value)) (cells : Array Value) (ie : TypeInfo) (hu : P.underlying t = some (.slice e)) (hie : P.info? e = some ie)
    (h : Instr.fill (fun i => some (i * ie.size, ie.size)) #[] parts.toList = some cells) : (Instr.buildSlice t 0 parts).run P w = .ok (.slice (some ⟨w.heap.size, 0, none⟩) 0 0) (w.alloc (.cells cells e)) := by
  have hr0 : Array.range 0 = #[] := rfl
  simp [Instr.buildSlice, run_underlying hu, sizeOf, typeInfo, hie, h, newRow, hr0]
theorem op_buildSlice (ok : CxOK cx) (t : TypeId) (n : Nat) (ps : Array (Nat × Operand)) (ho : o.op = .buildSlice t n ps) (hR : Rel cx.tid w0 E F I s a w) (hf : Fresh s.hp fr) (hrun : (effOp cx o fr (evalA cx.tid.glob s)).run s.hp = some (e, l))
    (hn : ∀ I' a' w', Rel cx.tid w0 E F I' (stepSt s o.dst e) a' w' → givenP e → next a' w') : o.wp cx.P a w next Q := by
  simp only [effOp, ho] at hrun
  obtain ⟨f0, g0⟩ := hf 0 (by omega)
  simp only [Nat.add_zero] at f0 g0
  obtain ⟨el, _, _, h1, h2, _⟩ := run_bind hrun
  obtain ⟨ty, _, _, h3, h4, _⟩ := run_bind h2
  obtain ⟨z, _, _, h5, h6, _⟩ := run_bind h4
  have hel := sliceOf_u (run_of h1).1
  obtain ⟨htid, i, zv, hi, hsz, hz, hzs, _⟩ := ok.ty _ _ (run_of h3).1
  obtain ⟨i', zv', hi', hz', hzr⟩ := zeros_R (w := w) (O := Own F I) (I := I) (run_of h5).1
  rw [hi] at hi'; injection hi' with hi'; subst hi'
  rw [hz] at hz'; injection hz' with hz'; subst hz'
  split at h6
  case isFalse => exact (run_fail h6).elim
  rename_i hc
  simp only [Bool.and_eq_true] at hc
  have hzl := Nat.eq_of_beq_eq_true hc.1
  have hsmall := Nat.le_of_ble_eq_true hc.2
  have hw := width_pos ty
  obtain ⟨cs, _, _, h7, h8, _⟩ := run_bind h6
  obtain ⟨⟨cs', sets⟩, _, _, h9, h10, _⟩ := run_bind h8
  obtain ⟨xs, _, _, h11, h12, _⟩ := run_bind h10
  obtain ⟨rfl, _⟩ := run_ret h12
  have hz0 : All2 (LeafR w (Own F I) I) ((Array.range (n * i.size)).map (zv.cells[· % zv.cells.size]!)).toList ((List.range (n * width ty)).map fun j => z.getD (j % width ty) .any) := by
    rw [hsz]
    refine .of (by simp) fun j u x hu hx => ?_
    simp only [Array.toList_map, Array.toList_range, List.getElem?_map, Option.map_eq_some_iff] at hu hx
    obtain ⟨k, hk, rfl⟩ := hu
    obtain ⟨k', hk', rfl⟩ := hx
    rw [hk] at hk'; injection hk' with hk'; subst hk'
    have hm : k % width ty < width ty := Nat.mod_lt _ hw
    obtain ⟨u, hu, hr⟩ := hzr.get (i := k % width ty) (b := z.getD (k % width ty) .any) (by rw [List.getD_eq_getElem?_getD, List.getElem?_eq_getElem (by omega)]; simp)
    have : zv.cells[k % zv.cells.size]! = u := by
      rw [hzs]
      have h' : zv.cells[k % width ty]? = some u := by simpa using hu
      rw [getElem!_def, h']
    rw [this]
    exact hr
  obtain ⟨cells, h13, h14⟩ := fillA_R _ _ _ _ _ _ (parts_R hR ps) hz0 (run_of h7).1
  obtain ⟨ids, hs, hids, hRk, hall⟩ := stills_R hR h9 h14
  subst hs
  have hcl : cells.size = n * width ty := by
    have := h14.length
    have h15 : cs.length = n * width ty := by
      have hl : ∀ (place : Nat → Option (Nat × Nat)) (ps : List (Nat × AV)) (c c' : List AV), fillA place c ps = some c' → c'.length = c.length := by
        intro place ps
        induction ps with
        | nil => intro c c' h; injection h with h; rw [h]
        | cons p ps ih =>
          intro c c' h
          simp only [fillA, Option.bind_eq_some_iff] at h
          obtain ⟨q, _, vs, _, h⟩ := h
          split at h
          · simp only [Option.bind_eq_some_iff] at h
            obtain ⟨c1, hp, h⟩ := h
            rw [ih _ _ h]
            unfold putL at hp
            split at hp
            · rename_i hle
              have hle := Nat.le_of_ble_eq_true hle
              injection hp with hp; subst hp
              simp; omega
            · cases hp
          · cases h
      rw [hl _ _ _ _ (run_of h7).1]; simp
    simp only [Array.length_toList] at this; omega
  obtain ⟨hxl, hxr⟩ := chunks_R hall (by rw [← hall.length]; simpa using hcl) (run_of h11).1
  have hni := fresh_notin hf hids
  have hfk := Fresh.kill hf hids
  obtain ⟨f0', g0'⟩ := hfk 0 (by omega)
  simp only [Nat.add_zero] at f0' g0'
  have hnew := hRk.rowNew (fr := fr) (t := ty) (xs := xs) (w' := w.alloc (.cells cells el)) (v := .slice (some ⟨w.heap.size, 0, none⟩) n n) (vs := cells.toList) f0' g0' (World.grownBy_alloc w _ none)
    (by rw [hxl]; unfold maxSl; have : n ≤ n * width ty := Nat.le_mul_of_pos_right _ hw; omega)
    ⟨by rw [hxl]; simpa using hcl, .inr ⟨w.heap.size, n, cells, by rw [hxl], Nat.le_refl _, by rw [← htid]; exact heap_alloc_new w _, by omega, by unfold maxLen; have : n ≤ n * width ty := Nat.le_mul_of_pos_right _ hw; omega, hcl, by rw [hxl, ← hcl]; exact List.take_of_length_le (by simp)⟩⟩ hxr 0
  rw [← setAll_set_comm hni] at hnew
  refine wp_of_value (w' := w.alloc (.cells cells el)) (v := .slice (some ⟨w.heap.size, 0, none⟩) n n) ?_ (hn _ _ _ (fin_put (e := _) hnew (.leaf (own_new (iup_same _ _ _) rfl))) (by exact trivial))
  rcases Nat.eq_zero_or_pos n with hn0 | hpos
  · subst hn0
    have := run_buildSlice0 (P := cx.P) w t el (ps.map fun (i, x) => (i, a.eval x)) cells i hel hi (by
      have hr0 : Array.range 0 = #[] := rfl
      rw [Nat.zero_mul, hr0, Array.map_empty] at h13
      rw [hsz]; exact h13)
    simp only [execOp, ho]
    rw [Sem.run_bind, this]
    rfl
  · have := run_buildSlice (P := cx.P) w t el n (ps.map fun (i, x) => (i, a.eval x)) cells i zv hel hi hz (by rw [hsz]; omega) (by rw [hsz]; have : 0 < n * width ty := Nat.mul_pos hpos hw; omega) (by rw [hsz]; rw [hsz] at h13; exact h13)
    simp only [execOp, ho]
    rw [Sem.run_bind, this]
    rfl

theorem cellsOf_get {t : Ty} {xs : List (den t)} {j : Nat} (hj : j / width t < xs.length) : (cellsOf t xs)[j]? = (leaves t xs[j / width t])[j % width t]? := by
  have h := flat_at hj
  have hw := width_pos t
  rw [← h, List.getElem?_take, if_pos (Nat.mod_lt _ hw), List.getElem?_drop]
  congr 1
  have := Nat.div_add_mod j (width t)
  rw [Nat.mul_comm]; omega

theorem op_makeSlice (ok : CxOK cx) (t : TypeId) (x c : Operand) (ho : o.op = .makeSlice t x c) (hR : Rel cx.tid w0 E F I s a w) (hf : Fresh s.hp fr) (hrun : (effOp cx o fr (evalA cx.tid.glob s)).run s.hp = some (e, l)) (hp : preP e)
    (hn : ∀ I' a' w', Rel cx.tid w0 E F I' (stepSt s o.dst e) a' w' → givenP e → next a' w') : o.wp cx.P a w next Q := by
  simp only [effOp, ho] at hrun
  obtain ⟨f0, g0⟩ := hf 0 (by omega)
  simp only [Nat.add_zero] at f0 g0
  obtain ⟨el, _, _, h1, h2, _⟩ := run_bind hrun
  obtain ⟨ty, _, _, h3, h4, _⟩ := run_bind h2
  obtain ⟨by_, _, _, h5, h6, _⟩ := run_bind h4
  obtain ⟨z, _, _, h7, h8, _⟩ := run_bind h6
  have hel := sliceOf_u (run_of h1).1
  obtain ⟨htid, i, zv, hi, hsz, hz, hzs, hby, _⟩ := ok.ty _ _ (run_of h3).1
  have hb : i.bytes = by_ := by
    have := (run_of h5).1
    unfold bytesT at this
    rw [hi] at this
    simpa using this
  have h7 := (run_of h7).1
  simp only [Option.bind_eq_some_iff] at h7
  obtain ⟨zl, hzl, hze⟩ := h7
  obtain ⟨i', zv', hi', hz', hzr⟩ := zeros_R (w := w) (O := Own F I) (I := I) hzl
  rw [hi] at hi'; injection hi' with hi'; subst hi'
  rw [hz] at hz'; injection hz' with hz'; subst hz'
  have hzr := toEl_R hzr hze
  split at h8
  case h_2 => exact (run_fail h8).elim
  rename_i lt ct n hev
  split at h8
  case isFalse => exact (run_fail h8).elim
  rename_i hlc
  have hlc := Nat.eq_of_beq_eq_true hlc
  subst hlc
  obtain ⟨rfl, _⟩ := run_ret h8
  obtain ⟨hn0, hnb⟩ : 0 ≤ n ∧ n * (by_ : Int) ≤ (maxSl : Nat) := hp
  have hv : a.eval (.tmp lt) = .int .i64 n := by have := hR.ev (.tmp lt); rw [hev] at this; exact this.int
  have hw := width_pos ty
  have hnle : n ≤ (maxSl : Nat) := by
    have h1 : n * 1 ≤ n * (by_ : Int) := Int.mul_le_mul_of_nonneg_left (by omega) hn0
    omega
  have hnb' : (i.bytes : Int) * n ≤ 281474976710656 := by rw [hb, Int.mul_comm]; unfold maxSl at hnb; omega
  have hrun' := run_make (P := cx.P) w t el i zv hel hi hz .i64 .i64 n n hn0 (Int.le_refl _) hnb' (by unfold maxSl at hnle; omega)
  have hall : All2 (LeafR w (Own F I) I) (madeCells zv.cells (n.toNat * i.size)).toList (cellsOf ty (List.replicate n.toNat z)) := by
    rw [hsz]
    refine .of (by rw [cellsOf_length]; simp [madeCells]) fun j u x hu hx => ?_
    have hj : j < n.toNat * width ty := by
      have := (List.getElem?_eq_some_iff.1 hx).1
      rw [cellsOf_length] at this; simpa using this
    have hd : j / width ty < (List.replicate n.toNat z).length := by
      rw [List.length_replicate]; exact Nat.div_lt_of_lt_mul (by rw [Nat.mul_comm]; exact hj)
    rw [cellsOf_get hd] at hx
    simp only [List.getElem_replicate] at hx
    obtain ⟨u', hu', hr⟩ := hzr.get hx
    simp only [madeCells, Array.toList_map, Array.toList_range, List.getElem?_map, Option.map_eq_some_iff] at hu
    obtain ⟨k, hk, rfl⟩ := hu
    have hk : k = j := by rw [List.getElem?_range hj] at hk; injection hk with hk; exact hk.symm
    subst hk
    have : zv.cells[k % zv.cells.size]! = u' := by
      rw [hzs]
      have h' : zv.cells[k % width ty]? = some u' := by simpa using hu'
      rw [getElem!_def, h']
    rw [this]
    exact hr
  have hnew := hR.rowNew (fr := fr) (t := ty) (xs := List.replicate n.toNat z) (w' := w.alloc (.cells (madeCells zv.cells (n.toNat * i.size)) el)) (v := .slice (some ⟨w.heap.size, 0, none⟩) n.toNat n.toNat) (vs := (madeCells zv.cells (n.toNat * i.size)).toList) f0 g0 (World.grownBy_alloc w _ none)
    (by simp; omega)
    ⟨by simp [madeCells, hsz], .inr ⟨w.heap.size, n.toNat, _, by simp, Nat.le_refl _, by rw [← htid]; exact heap_alloc_new w _, by simp, by unfold maxLen; unfold maxSl at hnle; omega, by simp [madeCells, hsz], by
      rw [List.length_replicate, ← hsz]; exact List.take_of_length_le (by simp [madeCells])⟩⟩ hall 0
  refine wp_of_value (w' := w.alloc (.cells (madeCells zv.cells (n.toNat * i.size)) el)) (v := .slice (some ⟨w.heap.size, 0, none⟩) n.toNat n.toNat) ?_ (hn _ _ _ (fin_put (e := _) hnew (.leaf (own_new (iup_same _ _ _) rfl))) (by exact trivial))
  simp only [execOp, ho, hv]
  rw [Sem.run_bind, hrun']
  rfl

theorem bytesT_R (ok : CxOK cx) {e : TypeId} {t : Ty} {n : Nat} (ht : cx.tyOf e = some t) (h : bytesT cx.P e = some n) : ∃ i z, cx.P.info? e = some i ∧ i.size = width t ∧ i.zero = some z ∧ z.cells.size = width t ∧ i.bytes = n ∧ 0 < n := by
  obtain ⟨_, i, z, hi, hsz, hz, hzs, hby, _⟩ := ok.ty _ _ ht
  unfold bytesT at h
  rw [hi] at h
  simp only [Option.map_some, Option.some.injEq] at h
  exact ⟨i, z, hi, hsz, hz, hzs, h, by omega⟩

theorem append_run (ok : CxOK cx) {base : Nat} (hbase : base ≤ w.heap.size) {t el ty : TypeId} {k : Ty} {by_ : Nat} (hel : cx.P.underlying t = some (.slice el)) (hk : cx.tyOf el = some k) (hby : bytesT cx.P el = some by_) {v : Value} {n : Nat} {vs : List Value} (hown : w.ownsRow base (cx.tid k) (width k) v n vs)
    {x : Value} {ys : List (den k)} (hR : Rel cx.tid w0 E F I s a w)
    (hx : (x = .slice none 0 0 ∧ ys = []) ∨ ∃ ad c, ∃ us : List Value, x = .slice (some ad) ys.length c ∧ (∀ (j : Nat) (u : Value), us[j]? = some u → w.cell? (ad.add j) = some u) ∧ All2 (LeafR w (Own F I) I) us (cellsOf k ys))
    (hb : (n + ys.length) * by_ ≤ maxSl) :
    ∃ v' w' us, (Builtin.append_ #[t, t] ty #[v, x]).run cx.P w = .ok v' w' ∧ w'.ownsRow base (cx.tid k) (width k) v' (n + ys.length) (vs ++ us) ∧ w.grownBy w' v.ownBlock ∧ All2 (LeafR w (Own F I) I) us (cellsOf k ys) ∧
      (base = 0 → v ≠ .slice none 0 0 → ∀ g, v'.ownBlock = some g → v.ownBlock = some g ∨ w.heap.size ≤ g) := by
  obtain ⟨i, z, hi, hsz, hz, hzs, hbb, hb0⟩ := bytesT_R ok hk hby
  obtain ⟨htid, _⟩ := ok.ty _ _ hk
  rw [← htid] at hown ⊢
  have hn : n + ys.length ≤ (n + ys.length) * by_ := Nat.le_mul_of_pos_right _ hb0
  rcases hx with ⟨rfl, rfl⟩ | ⟨ad, c, us, rfl, hc, hall⟩
  · refine ⟨v, w, [], ?_, by simpa using hown, ⟨rfl, rfl, rfl, Nat.le_refl _, fun _ _ _ => rfl⟩, .nil, fun _ _ g hg => .inl hg⟩
    rcases hown.2 with ⟨rfl, rfl⟩ | ⟨g, cap, cur, rfl, _, hg, hnc, _⟩
    · simp [Builtin.append_, run_underlying hel, sizeOf, typeInfo, hi, Builtin.lenOf, Builtin.firstCells, loadCells, loadCellsFrom]
    · simp [Builtin.append_, run_underlying hel, sizeOf, typeInfo, hi, Builtin.lenOf, Builtin.firstCells, loadCells, loadCellsFrom, hnc, storeCells]
  · have hul : us.length = ys.length * width k := by rw [hall.length, cellsOf_length]
    obtain ⟨v', w', h1, h2, h3, h4⟩ := run_append_own (P := cx.P) w base t ty el i z (width k) by_ hel hi hz hsz hbb hzs (width_pos k) v n vs hown ad ys.length c us hul hc (ones_of hall) (by unfold maxLen; unfold maxSl at hb; omega) (by unfold maxSl at hb; omega) hbase
    refine ⟨v', w', us, h1, h2, h3, hall, fun hb0' hnn g hg => ?_⟩
    rcases hown.2 with ⟨hv, _⟩ | ⟨g0, cap, cur, rfl, _, hg0, hnc, hcm, hcs, _⟩
    · exact absurd hv hnn
    · by_cases hroom : n + ys.length ≤ cap
      · have hr := run_append_room (P := cx.P) w t ty el i hel hi g0 n cap cur hg0 ad ys.length c us (by rw [hsz]; exact hul) hc (ones_of hall) hroom (by rw [hsz, hul, hcs, ← Nat.add_mul]; exact Nat.mul_le_mul_right _ hroom)
        rw [h1] at hr
        injection hr with hr _
        subst hr
        exact .inl hg
      · have hr := run_append_grow (P := cx.P) w t ty el i z hel hi hz ⟨g0, 0, none⟩ n cap vs (by rw [hsz]; exact hown.1) (hown.cells (g := g0) rfl) ad ys.length c us (by rw [hsz]; exact hul) hc (by omega) (by unfold maxSl at hb; omega)
          (growslice_fits (by omega) (by rw [hbb]; unfold maxSl at hb; omega))
        rw [h1] at hr
        injection hr with hr _
        subst hr
        injection hg with hg
        subst hg
        exact .inr (Nat.le_refl _)

theorem append_run0 (ok : CxOK cx) {t el ty : TypeId} {k : Ty} {by_ : Nat} (hel : cx.P.underlying t = some (.slice el)) (hk : cx.tyOf el = some k) (hby : bytesT cx.P el = some by_) {v : Value} {n : Nat} {vs : List Value} (hown : w.ownsRow 0 (cx.tid k) (width k) v n vs)
    {x : Value} {ys : List (den k)} (hR : Rel cx.tid w0 E F I s a w)
    (hx : (x = .slice none 0 0 ∧ ys = []) ∨ ∃ ad c, ∃ us : List Value, x = .slice (some ad) ys.length c ∧ (∀ (j : Nat) (u : Value), us[j]? = some u → w.cell? (ad.add j) = some u) ∧ All2 (LeafR w (Own F I) I) us (cellsOf k ys))
    (hb : (n + ys.length) * by_ ≤ maxSl) :
    ∃ v' w' us, (Builtin.append_ #[t, t] ty #[v, x]).run cx.P w = .ok v' w' ∧ w'.ownsRow 0 (cx.tid k) (width k) v' (n + ys.length) (vs ++ us) ∧ w.grownBy w' v.ownBlock ∧ All2 (LeafR w (Own F I) I) us (cellsOf k ys) ∧
      (∀ g, v'.ownBlock = some g → v.ownBlock = some g ∨ w.heap.size ≤ g) := by
  by_cases hnil : v = .slice none 0 0
  · subst hnil
    have h0 : w.ownsRow w.heap.size (cx.tid k) (width k) (.slice none 0 0) n vs := ⟨hown.1, by
      rcases hown.2 with h | ⟨_, _, _, h, _⟩
      · exact .inl h
      · cases h⟩
    obtain ⟨v', w', us, h1, h2, h3, h4, _⟩ := append_run (ty := ty) ok (Nat.le_refl _) hel hk hby h0 hR hx hb
    refine ⟨v', w', us, h1, ⟨h2.1, ?_⟩, h3, h4, fun g hg => .inr (h2.lt g hg).1⟩
    rcases h2.2 with h | ⟨g, cap, cur, e1, _, e2⟩
    · exact .inl h
    · exact .inr ⟨g, cap, cur, e1, Nat.zero_le _, e2⟩
  · obtain ⟨v', w', us, h1, h2, h3, h4, h5⟩ := append_run (ty := ty) ok (Nat.zero_le _) hel hk hby hown hR hx hb
    exact ⟨v', w', us, h1, h2, h3, h4, h5 rfl hnil⟩
theorem run_append2 {P : Program} {o : Oper} {a : Act} {w w' : World} {c : Call} {ts : Array TypeId} {x y : Operand} {v : Value} (ho : o.op = .call c) (hc : c.callee = .builtin .append) (ht : c.argTypes = ts) (ha : c.args.toList = [x, y])
    (h : (Builtin.append_ ts o.type #[a.eval x, a.eval y]).run P w = .ok v w') : (execOp a.eval o).run P w = .ok (.value v) w' := by
  have hargs : c.args = #[x, y] := Array.ext' (by simpa using ha)
  simp [execOp, ho, resolve, hc, invoke, builtin, ht, hargs, h]

theorem op_append (ok : CxOK cx) (c : Call) (ho : o.op = .call c) (hcal : c.callee = .builtin .append) (x y : Operand) (ha : c.args.toList = [x, y]) (hR : Rel cx.tid w0 E F I s a w) (hf : Fresh s.hp fr)
    (hrun : (builtinA cx fr .append c.argTypes [evalA cx.tid.glob s x, evalA cx.tid.glob s y]).run s.hp = some (e, l)) (hp : preP e)
    (hn : ∀ I' a' w', Rel cx.tid w0 E F I' (stepSt s o.dst e) a' w' → givenP e → next a' w') : o.wp cx.P a w next Q := by
  obtain ⟨f0, g0⟩ := hf 0 (by omega)
  simp only [Nat.add_zero] at f0 g0
  simp only [builtinA] at hrun
  obtain ⟨t, _, _, h0, hrun, _⟩ := run_bind hrun
  obtain ⟨el, _, _, h1, h2, _⟩ := run_bind hrun
  obtain ⟨k, _, _, h3, h4, _⟩ := run_bind h2
  obtain ⟨by_, _, _, h5, h6, _⟩ := run_bind h4
  obtain ⟨ys, _, _, h7, h8, _⟩ := run_bind h6
  have hts : c.argTypes[0]? = some t ∧ c.argTypes[1]? = some t := by
    have h0 := (run_of h0).1
    unfold sameTy at h0
    split at h0
    · rename_i t' u' e0 e1
      split at h0
      · rename_i hb
        injection h0 with h0
        subst h0
        exact ⟨e0, by rw [e1, Nat.eq_of_beq_eq_true hb]⟩
      · cases h0
    · cases h0
  have hel := sliceOf_u (run_of h1).1
  have hk := (run_of h3).1
  have hby := (run_of h5).1
  have hx := elems_R hR h7 (hR.ev y)
  have hargT : ∀ (v v' : Value) (w' : World), (Builtin.append_ #[t, t] o.type #[v, a.eval y]).run cx.P w = .ok v' w' → (Builtin.append_ c.argTypes o.type #[v, a.eval y]).run cx.P w = .ok v' w' := by
    intro v v' w' h
    unfold Builtin.append_ at h ⊢
    simpa [hts.1, hts.2] using h
  obtain ⟨_, _, _, _, _, _, _, hb0⟩ := bytesT_R ok hk hby
  split at h8
  · rename_i hs
    obtain ⟨rfl, _⟩ := run_ret h8
    have hv := hR.ev x
    rw [hs] at hv
    have hv := hv.nil
    have hb : ys.length * by_ ≤ maxSl := hp
    obtain ⟨v', w', us, hr, hown, hgr, hus, _⟩ := append_run (ty := o.type) ok (Nat.le_refl _) hel hk hby (World.ownsRow_nil w w.heap.size _ _) hR hx (by simpa using hb)
    simp only [Nat.zero_add, List.nil_append] at hown
    have hgr' : w.grownBy w' none := ⟨hgr.os, hgr.tape, hgr.output, hgr.size, fun k hk _ => hgr.block k hk (by simp [Value.ownBlock])⟩
    have hone : v'.oneCell' = true := by rcases hown.2 with ⟨rfl, _⟩ | ⟨_, _, _, rfl, _⟩ <;> rfl
    refine wp_of_value (run_append2 ho hcal rfl ha (hargT _ _ _ (by rw [hv]; exact hr))) (hn _ _ _ (fin_put (e := _) (hR.rowNew f0 g0 hgr' (by
      have hn : ys.length ≤ ys.length * by_ := Nat.le_mul_of_pos_right _ hb0
      omega) hown hus 0) (.leaf (own_new (iup_same _ _ _) hone))) (by exact trivial))
  · rename_i id n hs
    have hv := hR.ev x
    rw [hs] at hv
    obtain ⟨l', h8, _⟩ := run_ask h8
    have hpp := hR.hp id
    split at h8
    case h_2 => exact (run_fail h8).elim
    rename_i m k' xs hbk
    split at h8
    case isFalse => exact (run_fail h8).elim
    rename_i hm
    have hm := Nat.eq_of_beq_eq_true hm
    subst hm
    obtain ⟨xs', _, _, h9, h10, _⟩ := run_bind h8
    obtain ⟨e1, he⟩ := castRow_eq (run_of h9).1
    subst e1
    have he : xs = xs' := he
    subst he
    obtain ⟨rfl, _⟩ := run_ret h10
    rw [hbk] at hpp
    obtain ⟨l0, hl0, u, vs, rfl, hmx, hown, hall⟩ := hpp
    have hvu := (hv.own.2.2 _ _ _ hl0).2 rfl
    have hb : (xs.length + ys.length) * by_ ≤ maxSl := hp
    obtain ⟨v', w', us, hr, hown', hgr, hus, hplace⟩ := append_run0 (ty := o.type) ok hel hk hby hown hR hx hb
    have hone : v'.oneCell' = true := by rcases hown'.2 with ⟨rfl, _⟩ | ⟨_, _, _, rfl, _⟩ <;> rfl
    have hid : id < s.hp.length := by
      rcases Nat.lt_or_ge id s.hp.length with h' | h'
      · exact h'
      · rw [List.getD_eq_getElem?_getD, List.getElem?_eq_none h'] at hbk; cases hbk
    have hR' := hR.upd (id := id) (l := .row (m + 1) k' v') (b := .rowb (m + 1) k' (xs ++ ys)) (w' := w') hid
      (fun l0 h0 => by rw [hl0] at h0; injection h0 with h0; subst h0; exact .inr (.inr ⟨m, m + 1, k', u, v', rfl, rfl, by omega⟩))
      (fun g hg hn => hgr.block g hg (fun e => hn _ hl0 e.symm))
      (fun g hg => ⟨?_, (hown'.lt g hg).2⟩) hgr.os hgr.tape hgr.output hgr.size
      (fun hmm => ⟨v', vs ++ us, rfl, by
        rw [List.length_append]
        have hn : xs.length + ys.length ≤ (xs.length + ys.length) * by_ := Nat.le_mul_of_pos_right _ hb0
        omega, by rw [List.length_append]; exact hown', by
        have e : cellsOf k' (xs ++ ys) = cellsOf k' xs ++ cellsOf k' ys := by unfold cellsOf; rw [List.flatMap_append]
        rw [e]
        exact (hall.append hus).mono fun _ _ h => hmm _ _ h⟩)
    · exact wp_of_value (run_append2 ho hcal rfl ha (hargT _ _ _ (by rw [hvu]; exact hr))) (hn _ _ _ (fin_put (e := _) hR' (.leaf (own_new (iup_same _ _ _) hone))) (by exact trivial))
    · rcases hplace g hg with h | h
      · exact .inl ⟨_, hl0, h⟩
      · exact .inr h
  · exact (run_fail h8).elim

theorem map_one {s : St} {args : Array Operand} {x : AV} (h : args.toList.map (evalA cx.tid.glob s) = [x]) : ∃ y, args = #[y] ∧ evalA cx.tid.glob s y = x := by
  cases hl : args.toList with
  | nil => rw [hl] at h; cases h
  | cons y l =>
    rw [hl] at h
    cases l with
    | nil => simp only [List.map_cons, List.map_nil, List.cons.injEq, and_true] at h; exact ⟨y, Array.ext' (by simpa using hl), h⟩
    | cons z l => simp at h
theorem map_two {s : St} {args : Array Operand} {x x' : AV} (h : args.toList.map (evalA cx.tid.glob s) = [x, x']) : ∃ y y', args = #[y, y'] ∧ evalA cx.tid.glob s y = x ∧ evalA cx.tid.glob s y' = x' := by
  cases hl : args.toList with
  | nil => rw [hl] at h; cases h
  | cons y l =>
    rw [hl] at h
    cases l with
    | nil => simp at h
    | cons z l => cases l with
      | nil => simp only [List.map_cons, List.map_nil, List.cons.injEq, and_true] at h; exact ⟨y, z, Array.ext' (by simpa using hl), h.1, h.2⟩
      | cons _ _ => simp at h

theorem op_builtin (ok : CxOK cx) (c : Call) (b : Builtin) (ho : o.op = .call c) (hcal : c.callee = .builtin b) (hR : Rel cx.tid w0 E F I s a w) (hf : Fresh s.hp fr)
    (hrun : (builtinA cx fr b c.argTypes (c.args.toList.map (evalA cx.tid.glob s))).run s.hp = some (e, l)) (hp : preP e)
    (hn : ∀ I' a' w', Rel cx.tid w0 E F I' (stepSt s o.dst e) a' w' → givenP e → next a' w') : o.wp cx.P a w next Q := by
  have lens : ∀ (x : Operand) (d : TypeDesc) (v : Int), c.args = #[x] → (c.argTypes[0]?).bind cx.P.underlying = some d → b = .len →
      (∀ t, c.argTypes[0]? = some t → cx.P.underlying t = some d → (Builtin.len_ c.argTypes o.type #[a.eval x]).run cx.P w = .ok (goInt v) w) → (execOp a.eval o).run cx.P w = .ok (.value (.int .i64 v)) w := by
    intro x d v hx hd hb h
    subst hb
    simp only [Option.bind_eq_some_iff] at hd
    obtain ⟨t, ht, hd⟩ := hd
    simp only [execOp, ho, resolve, hcal, hx, Sem.run_bind, Sem.run_pure, Result.andThen_ok, invoke, builtin, pure_bind]
    simp [h t ht hd, goInt]
  unfold builtinA at hrun
  split at hrun
  · rename_i x hargs
    obtain ⟨y, hy, hyx⟩ := map_one hargs
    have hv := hR.ev y
    rw [hyx] at hv
    split at hrun
    · rename_i st hd
      obtain ⟨rfl, _⟩ := run_ret hrun
      obtain ⟨hs, hm⟩ := hv.str
      refine op_value hR rfl (by exact hm) (v := .int .i64 st.size) (lens y _ _ hy hd rfl fun t ht hu => ?_) (.leaf (.int _ _)) hn
      simp [Builtin.len_, ht, run_underlying hu, hs]
    · rename_i el t' xs hd
      obtain ⟨rfl, _⟩ := run_ret hrun
      obtain ⟨⟨p, c', hs⟩, hm⟩ := hv.row
      refine op_value hR rfl (by exact hm) (v := .int .i64 xs.length) (lens y _ _ hy hd rfl fun t ht hu => ?_) (.leaf (.int _ _)) hn
      simp [Builtin.len_, ht, run_underlying hu, hs]
    · rename_i el id n hd
      obtain ⟨l', hrun, _⟩ := run_ask hrun
      have hpp := hR.hp id
      split at hrun
      case h_2 => exact (run_fail hrun).elim
      rename_i m k xs hbk
      rw [hbk] at hpp
      obtain ⟨l0, hl0, u, vs, rfl, hmx, hown, hall⟩ := hpp
      split at hrun
      case isFalse => exact (run_fail hrun).elim
      rename_i hmn
      obtain ⟨rfl, _⟩ := run_ret hrun
      have hvu := (hv.own.2.2 _ _ _ hl0).2 (Nat.eq_of_beq_eq_true hmn).symm
      have hs : ∃ p c', a.eval y = .slice p xs.length c' := by
        rw [hvu]
        rcases hown.2 with ⟨rfl, h0⟩ | ⟨g, cap, cur, rfl, _⟩
        · exact ⟨none, 0, by rw [h0]⟩
        · exact ⟨_, _, rfl⟩
      obtain ⟨p, c', hs⟩ := hs
      refine op_value hR rfl (by exact hmx) (v := .int .i64 xs.length) (lens y _ _ hy hd rfl fun t ht hu => ?_) (.leaf (.int _ _)) hn
      simp [Builtin.len_, ht, run_underlying hu, hs]
    · rename_i el hd
      obtain ⟨rfl, _⟩ := run_ret hrun
      refine op_value hR rfl (by exact trivial) (v := .int .i64 0) (lens y _ _ hy hd rfl fun t ht hu => ?_) (.leaf (.int _ _)) hn
      simp [Builtin.len_, ht, run_underlying hu, hv.nil]
    · exact (run_fail hrun).elim
  · rename_i x x' hargs
    obtain ⟨y, y', hy, hyx, hyx'⟩ := map_two hargs
    refine op_append (l := l) ok c ho hcal y y' (by rw [hy]) hR hf ?_ hp hn
    unfold builtinA
    rw [hyx, hyx']
    exact hrun
  · rename_i k x k' x' hargs
    obtain ⟨y, y', hy, hyx, hyx'⟩ := map_two hargs
    have hv := hR.ev y
    have hv' := hR.ev y'
    rw [hyx] at hv
    rw [hyx'] at hv'
    split at hrun
    case isFalse => exact (run_fail hrun).elim
    rename_i hk
    cases kEq_iff hk
    obtain ⟨rfl, _⟩ := run_ret hrun
    refine op_value hR rfl (by exact trivial) (v := .int k (if x' < x then x' else x)) ?_ (.leaf (.int _ _)) hn
    simp [execOp, ho, resolve, hcal, hy, invoke, builtin, Builtin.min_, Builtin.min2, hv.int, hv'.int]
  · rename_i k x k' x' hargs
    obtain ⟨y, y', hy, hyx, hyx'⟩ := map_two hargs
    have hv := hR.ev y
    have hv' := hR.ev y'
    rw [hyx] at hv
    rw [hyx'] at hv'
    split at hrun
    case isFalse => exact (run_fail hrun).elim
    rename_i hk
    cases kEq_iff hk
    obtain ⟨rfl, _⟩ := run_ret hrun
    refine op_value hR rfl (by exact trivial) (v := .int k (if x' > x then x' else x)) ?_ (.leaf (.int _ _)) hn
    simp [execOp, ho, resolve, hcal, hy, invoke, builtin, Builtin.max_, Builtin.max2, hv.int, hv'.int]
  · exact (run_fail hrun).elim

theorem u8_cells {O : Nat → Prop} {vs : List Value} : ∀ {ns : List Int}, All2 (LeafR w O I) vs (cellsOf .u8 ns) → vs = ns.map (Value.int .u8) := by
  intro ns
  induction ns generalizing vs with
  | nil => intro h; cases h; rfl
  | cons n ns ih =>
    intro h
    have h : All2 (LeafR w O I) vs (.int .u8 n :: cellsOf .u8 ns) := h
    cases h with | cons h1 h2 =>
    cases h1
    rw [ih h2]; rfl
theorem strOf_size (l : List Int) : (strOf l).size = l.length := by
  have hsz : ∀ (l : List Int) (b : ByteArray), (l.foldl (fun r n => r.push (UInt8.ofNat n.toNat)) b).size = b.size + l.length := by
    intro l
    induction l with
    | nil => intro b; simp
    | cons n l ih => intro b; simp only [List.foldl_cons, ih]; rw [ByteArray.size_push]; simp; omega
  unfold strOf
  rw [hsz]; simp

theorem op_convert (src dst : TypeId) (x : Operand) (ho : o.op = .convert src dst x) (hR : Rel cx.tid w0 E F I s a w) (hrun : (effOp cx o fr (evalA cx.tid.glob s)).run s.hp = some (e, l)) (hp : preP e)
    (hn : ∀ I' a' w', Rel cx.tid w0 E F I' (stepSt s o.dst e) a' w' → givenP e → next a' w') : o.wp cx.P a w next Q := by
  simp only [effOp, ho] at hrun
  have hx := hR.ev x
  split at hrun
  · rename_i k1 k2 k n hu hd hxv
    rw [hxv] at hx
    obtain ⟨rfl, _⟩ := run_ret hrun
    refine op_value hR rfl (by exact trivial) (v := .int k2 (k2.wrap n)) ?_ (.leaf (.int _ _)) hn
    simp [execOp, ho, convert, run_underlying hu, run_underlying hd, hx.int, Conv.intToInt]
  · rename_i st hu hd hxv
    rw [hxv] at hx
    obtain ⟨rfl, _⟩ := run_ret hrun
    obtain ⟨hs, hm⟩ := hx.str
    refine op_value hR rfl (by exact trivial) (v := .string st) ?_ (.leaf (.str _ hm)) hn
    simp [execOp, ho, convert, run_underlying hu, run_underlying hd, hs]
  · rename_i v el hu hd
    split at hrun
    case h_2 => exact (run_fail hrun).elim
    rename_i he
    obtain ⟨ns, _, _, h1, h2, _⟩ := run_bind hrun
    obtain ⟨rfl, _⟩ := run_ret h2
    have hb : ns.length ≤ maxSl := hp
    refine op_value hR rfl (by exact trivial) (v := .string (strOf ns)) ?_ (.leaf (.str _ (Nat.le_trans (Nat.le_of_eq (strOf_size ns)) hb))) hn
    rcases elems_R hR h1 hx with ⟨hv, rfl⟩ | ⟨ad, c, vs, hv, hc, hall⟩
    · simp only [execOp, ho, hv, Sem.run_bind, run_convert_bytes_string w src dst el none 0 0 hu he hd]
      rfl
    · have hvs := u8_cells hall
      have hload := run_loadCells_list (P := cx.P) w ad vs (fun j u hu => hc j u hu)
      have hvl : vs.length = List.length ns := by rw [hvs]; exact List.length_map ..
      rw [hvl, hvs] at hload
      have := run_bytesToString (P := cx.P) w ad (List.length ns) c ns hload
      simp only [execOp, ho, hv, Sem.run_bind, run_convert_bytes_string w src dst el _ _ _ hu he hd, this]
      rfl
  · exact (run_fail hrun).elim
end
end Go.Proofs.YtnhipiedjekkpaaGreatDoor.AX
end
section
namespace Go.Proofs.YtnhipiedjekkpaaGreatDoor.AX
open Go Go.RowKit

structure HRel (tid : Env) (F : Nat → Prop) (I : Im) (hp : List (Option Blk)) (w : World) : Prop where
  hp : ∀ id, match hp.getD id none with
    | some b => ∃ l, I id = some l ∧ BlkR tid w (Own F I) I l b
    | none => I id = none
  inj : ∀ id id' l l' b, I id = some l → I id' = some l' → l.has b → l'.has b → id = id'
  apart : ∀ id l b, I id = some l → l.has b → ¬ F b
  lt : ∀ id l b, I id = some l → l.has b → b < w.heap.size
  out : ∀ b, F b → b < w.heap.size
  glob : GOK tid w (Own F I)
theorem Rel.toH {tid : Env} {w0 w : World} {E F : Nat → Prop} {I : Im} {s : St} {a : Act} (h : Rel tid w0 E F I s a w) : HRel tid F I s.hp w :=
  ⟨h.hp, h.inj, h.apart, fun id l b h1 h2 => (h.place id l b h1 h2).2, fun b hb => Nat.lt_of_lt_of_le (h.out b hb) h.size, h.glob⟩

def pureL : AV → Prop
  | .own .. | .ptr .. | .optr .. | .fn _ (_ :: _) => False
  | _ => True
theorem pure_leaves (t : Ty) (x : den t) : ∀ a ∈ leaves t x, pureL a := by
  cases t <;> simp [leaves, nodeL, editL, pairL, revL, entryL, twoL, fnsL, pureL]
theorem pure_cells (t : Ty) (xs : List (den t)) : ∀ a ∈ cellsOf t xs, pureL a := by
  intro a ha
  obtain ⟨x, _, h⟩ := List.mem_flatMap.1 ha
  exact pure_leaves t x a h

theorem LeafR.pure {w : World} {O O' : Nat → Prop} {I I' : Im} (hO : ∀ b, O' b → O b) {v : Value} {x : AV} (h : LeafR w O I v x) (hp : pureL x) : LeafR w O' I' v x := by
  induction h with
  | lit b => exact .lit b
  | bool b => exact .bool b
  | int k n => exact .int k n
  | str s h => exact .str s h
  | nil => exact .nil
  | nilptr => exact .nilptr
  | zrow ad c => exact .zrow ad c
  | row0 t => exact .row0 t
  | rowz ad c t => exact .rowz ad c t
  | row b off c t xs vs h1 h2 h3 hv hl hr ih =>
    exact .row b off c t xs vs (fun hp ho => h1 hp (hO b ho)) h2 h3 hv hl fun j u x hu hx => ih j u x hu hx (pure_cells t xs x (List.mem_of_getElem? hx))
  | own => exact hp.elim
  | ptr => exact hp.elim
  | optr => exact hp.elim
  | pin b base c t xs i off h0 h1 _ ih => exact .pin b base c t xs i off h0 h1 (ih trivial)
  | fn f caps cs hl h _ =>
    cases caps with
    | nil =>
      obtain rfl := List.eq_nil_of_length_eq_zero hl
      exact .fn f [] [] rfl fun j u x hu _ => by simp at hu
    | cons => exact hp.elim
  | any v h1 => exact .any v h1

def reset : Loc → Loc
  | .row _ t v => .row 0 t v
  | l => l
theorem reset_has {l : Loc} {b : Nat} : (reset l).has b ↔ l.has b := by cases l <;> exact Iff.rfl
def sel (I : Im) (J : List Nat) : Im := fun i => match J[i]? with
  | some id => (I id).map reset
  | none => none

theorem pos_get : ∀ {J : List Nat} {id i : Nat}, pos J id = some i → J[i]? = some id
  | [], _, _, h => by cases h
  | m :: J, id, i, h => by
    simp only [pos] at h
    split at h
    · rename_i hb; injection h with h; subst h; simp [Nat.eq_of_beq_eq_true hb]
    · split at h
      · rename_i j hj; injection h with h; subst h; simpa using pos_get hj
      · cases h
theorem pos_none : ∀ {J : List Nat} {id : Nat}, pos J id = none → id ∉ J
  | [], _, _ => by simp
  | m :: J, id, h => by
    simp only [pos] at h
    split at h
    · cases h
    · rename_i hb
      split at h
      · cases h
      · rename_i hj
        intro hm
        cases hm with
        | head => simp at hb
        | tail _ hm => exact pos_none hj hm
theorem nodupB_inj : ∀ {J : List Nat}, nodupB J = true → ∀ {i j id : Nat}, J[i]? = some id → J[j]? = some id → i = j
  | [], _, i, _, _, h, _ => by simp at h
  | m :: J, h, i, j, id, h1, h2 => by
    simp only [nodupB] at h
    split at h
    · rename_i hm
      have hm := pos_none hm
      cases i with
      | zero =>
        cases j with
        | zero => rfl
        | succ j => simp at h1 h2; subst h1; exact absurd (List.mem_of_getElem? h2) hm
      | succ i =>
        cases j with
        | zero => simp at h1 h2; subst h2; exact absurd (List.mem_of_getElem? h1) hm
        | succ j => simp at h1 h2; rw [nodupB_inj h h1 h2]
    · cases h

section
variable {tid : Env} {w : World} {F F' : Nat → Prop} {I : Im} {hp : List (Option Blk)} {J : List Nat} {O' : Nat → Prop}

def LentOK (I : Im) (J : List Nat) (O' : Nat → Prop) (ids : List Nat) : Prop := ∀ id ∈ ids, pos J id = none → ∀ l g, I id = some l → l.has g → ¬ O' g

theorem mapL_R (hH : HRel tid F I hp w) (hO : ∀ b, O' b → Own F I b) {lend : Bool} {x y : AV} {l : List Nat} (hL : lend = true → LentOK I J O' (lentL x)) (hrun : (mapL J lend x).run hp = some (y, l)) {v : Value} (hv : LeafR w (Own F I) I v x) :
    LeafR w O' (sel I J) v y := by
  unfold mapL at hrun
  split at hrun
  · rename_i id n
    obtain ⟨l', hrun, _⟩ := run_ask hrun
    have hb := hH.hp id
    have hown := ValR.own (show ValR w (Own F I) I v (.own id n) from hv)
    split at hrun
    · rename_i m t xs hbk
      rw [hbk] at hb
      obtain ⟨l0, hl0, u, vs, rfl, hmx, hrow, hall⟩ := hb
      split at hrun
      · rename_i hmn hpos _
        obtain ⟨rfl, _⟩ := run_ret hrun
        have hvu := (hown.2.2 _ _ _ hl0).2 (Nat.eq_of_beq_eq_true hmn).symm
        subst hvu
        rcases hrow.2 with ⟨rfl, h0⟩ | ⟨g, cap, cur, rfl, _, hg, hn, hcm, hcs, htake⟩
        · have : xs = [] := List.eq_nil_of_length_eq_zero h0
          subst this; exact .row0 t
        · refine .row g 0 cap t xs vs (fun _ => hL rfl id (.head _) hpos _ g hl0 rfl) hn hmx (fun j u hu => ?_) hall.length (fun j u x hu hx => ?_)
          · have := hrow.cells (g := g) rfl _ _ hu
            rw [add_none] at this
            simpa using this
          · obtain ⟨y, hy, hr⟩ := hall.get' hu
            rw [hx] at hy; injection hy with hy; subst hy
            exact hr.pure hO (pure_cells t xs x (List.mem_of_getElem? hx))
      · rename_i i hmn hpos _
        obtain ⟨rfl, _⟩ := run_ret hrun
        have hvu := (hown.2.2 _ _ _ hl0).2 (Nat.eq_of_beq_eq_true hmn).symm
        subst hvu
        have hs : sel I J i = some (.row 0 t v) := by unfold sel; rw [pos_get hpos]; simp [hl0, reset]
        exact own_new hs hown.2.1
      · obtain ⟨rfl, _⟩ := run_ret hrun
        exact .any _ hown.2.1
    · obtain ⟨rfl, _⟩ := run_ret hrun
      exact .any _ hown.2.1
  · rename_i id off
    have hptr := ValR.ptr (show ValR w (Own F I) I v (.ptr id off) from hv)
    split at hrun
    · rename_i i hpos
      obtain ⟨rfl, _⟩ := run_ret hrun
      have hs : sel I J i = (I id).map reset := by unfold sel; rw [pos_get hpos]
      refine .ptr _ _ _ (by rw [hs]; simpa using hptr.1) hptr.2.1 (fun b hb => ?_) (fun b u hb h0 => ?_)
      · rw [hs] at hb
        simp only [Option.map_eq_some_iff] at hb
        obtain ⟨l, hl, hr⟩ := hb
        cases l <;> simp only [reset] at hr <;> cases hr
        exact hptr.2.2.1 _ hl
      · rw [hs] at hb
        simp only [Option.map_eq_some_iff] at hb
        obtain ⟨l, hl, hr⟩ := hb
        cases l <;> simp only [reset] at hr <;> cases hr
        exact hptr.2.2.2 _ _ hl h0
    · obtain ⟨rfl, _⟩ := run_ret hrun
      exact .any _ hptr.2.1
  · obtain ⟨rfl, _⟩ := run_ret hrun
    cases hv; exact .bool _
  · obtain ⟨rfl, _⟩ := run_ret hrun
    exact .any _ hv.one
  · obtain ⟨rfl, _⟩ := run_ret hrun
    obtain ⟨cs, rfl, hall⟩ := ValR.fn (show ValR w (Own F I) I v _ from hv)
    cases hall
    exact .fn _ _ [] rfl (fun j u x hu => by simp at hu)
  · obtain ⟨rfl, _⟩ := run_ret hrun
    exact .any _ hv.one
  · obtain ⟨rfl, _⟩ := run_ret hrun
    exact .any _ hv.one
  · obtain ⟨rfl, _⟩ := run_ret hrun
    exact .any _ hv.one
  · rename_i h1 h2 h3 h4 h5 h6 h7 h8
    obtain ⟨rfl, _⟩ := run_ret hrun
    refine hv.pure hO ?_
    cases x <;> first | trivial | exact absurd rfl (h1 _ _) | exact absurd rfl (h2 _ _) | exact absurd rfl (h4 _ _ _ _) | (rename_i f caps; exact absurd rfl (h6 _ _))

theorem mapLs_R (hH : HRel tid F I hp w) (hO : ∀ b, O' b → Own F I b) {lend : Bool} : ∀ {xs ys : List AV} {l : List Nat}, (lend = true → LentOK I J O' (xs.flatMap lentL)) → (mapLs J lend xs).run hp = some (ys, l) → ∀ {vs : List Value}, All2 (LeafR w (Own F I) I) vs xs →
    All2 (LeafR w O' (sel I J)) vs ys
  | [], ys, l, _, hrun, vs, hv => by
    obtain ⟨rfl, _⟩ := run_ret hrun
    cases hv; exact .nil
  | x :: xs, ys, l, hL, hrun, vs, hv => by
    simp only [mapLs] at hrun
    obtain ⟨y, _, _, h1, h2, _⟩ := run_bind hrun
    obtain ⟨ys', _, _, h3, h4, _⟩ := run_bind h2
    obtain ⟨rfl, _⟩ := run_ret h4
    cases hv with | cons ha hv =>
    exact .cons (mapL_R hH hO (fun hl id hid => hL hl id (List.mem_flatMap.2 ⟨x, .head _, hid⟩)) h1 ha) (mapLs_R hH hO (fun hl id hid => by
      obtain ⟨z, hz, hi⟩ := List.mem_flatMap.1 hid
      exact hL hl id (List.mem_flatMap.2 ⟨z, .tail _ hz, hi⟩)) h3 hv)
theorem mapV1_R (hH : HRel tid F I hp w) (hO : ∀ b, O' b → Own F I b) {lend : Bool} {x y : AV} {l : List Nat} (hL : lend = true → LentOK I J O' (lentV x)) (hrun : (mapV1 J lend x).run hp = some (y, l)) {v : Value} (hv : ValR1 w (Own F I) I v x) :
    ValR1 w O' (sel I J) v y := by
  unfold mapV1 at hrun
  split at hrun
  · obtain ⟨fs', _, _, h1, h2, _⟩ := run_bind hrun
    obtain ⟨rfl, _⟩ := run_ret h2
    obtain ⟨cs, rfl, hall⟩ := hv
    exact ⟨cs, rfl, mapLs_R hH hO hL h1 hall⟩
  · obtain ⟨caps', _, _, h1, h2, _⟩ := run_bind hrun
    obtain ⟨rfl, _⟩ := run_ret h2
    obtain ⟨cs, rfl, hall⟩ := ValR.fn (ValR.of1 hv)
    have := mapLs_R (lend := false) hH hO (fun h => nomatch h) h1 hall
    exact .leaf (.fn _ _ cs this.length fun j u x hu hx => by
      obtain ⟨y, hy, hr⟩ := this.get' hu
      rw [hx] at hy; injection hy with hy; subst hy; exact hr)
  · obtain ⟨rfl, _⟩ := run_ret hrun
    exact hv
  · obtain ⟨rfl, _⟩ := run_ret hrun
    trivial
  · rename_i h1 h2 h3 h4
    by_cases he : x = .any
    · subst he
      obtain ⟨rfl, _⟩ := run_ret (show (Rd.ret AV.any).run hp = _ from hrun)
      trivial
    · have hl : LeafR w (Own F I) I v x := by
        cases x <;> first | exact hv | exact absurd rfl (h1 _) | exact absurd rfl he | exact absurd rfl (h4 _)
      refine .leaf (mapL_R hH hO (fun h => ?_) hrun hl)
      have := hL h
      cases x <;> first | exact this | exact absurd rfl (h1 _)
end
end Go.Proofs.YtnhipiedjekkpaaGreatDoor.AX
end
section
namespace Go.Proofs.YtnhipiedjekkpaaGreatDoor.AX
open Go Go.RowKit

section
variable {tid : Env} {w : World} {F F' : Nat → Prop} {I : Im} {hp : List (Option Blk)} {J : List Nat} {O' : Nat → Prop}
theorem sel_some {i : Nat} {l : Loc} (h : sel I J i = some l) : ∃ id l0, J[i]? = some id ∧ I id = some l0 ∧ l = reset l0 := by
  unfold sel at h
  split at h
  · rename_i id hid
    simp only [Option.map_eq_some_iff] at h
    obtain ⟨l0, h0, h1⟩ := h
    exact ⟨id, l0, hid, h0, h1.symm⟩
  · cases h
theorem mapBs_get (hH : HRel tid F I hp w) (hO : ∀ b, O' b → Own F I b) : ∀ {K : List Nat} {bs : List Blk} {vers l : List Nat}, (mapBs J K).run hp = some ((bs, vers), l) →
    bs.length = K.length ∧ vers.length = K.length ∧ ∀ (i id : Nat), K[i]? = some id → ∃ b l0, bs[i]? = some b ∧ I id = some l0 ∧ BlkR tid w O' (sel I J) (reset l0) b ∧ (∀ n t v, l0 = .row n t v → vers[i]? = some (n + 1)) ∧ (l0 ≠ .dead)
  | [], bs, vers, l, h => by
    obtain ⟨h1, _⟩ := run_ret h
    injection h1 with h1 h2
    subst h1; subst h2
    exact ⟨rfl, rfl, fun i id h => by simp at h⟩
  | k :: K, bs, vers, l, h => by
    simp only [mapBs] at h
    obtain ⟨l', h, _⟩ := run_ask h
    have hb := hH.hp k
    have done : ∀ (b : Blk) (v : Nat) (bs' : List Blk) (vs' : List Nat) (l' : List Nat) (l0 : Loc), (mapBs J K).run hp = some ((bs', vs'), l') → I k = some l0 → BlkR tid w O' (sel I J) (reset l0) b → (∀ n t u, l0 = .row n t u → v = n + 1) → l0 ≠ .dead →
        (bs, vers) = (b :: bs', v :: vs') → bs.length = (k :: K).length ∧ vers.length = (k :: K).length ∧ ∀ (i id : Nat), (k :: K)[i]? = some id → ∃ b l0, bs[i]? = some b ∧ I id = some l0 ∧ BlkR tid w O' (sel I J) (reset l0) b ∧ (∀ n t v, l0 = .row n t v → vers[i]? = some (n + 1)) ∧ (l0 ≠ .dead) := by
      intro b v bs' vs' l' l0 hrec hk hB hv hd e
      injection e with e1 e2
      subst e1; subst e2
      obtain ⟨i1, i2, i3⟩ := mapBs_get hH hO hrec
      refine ⟨by simp [i1], by simp [i2], fun i id hi => ?_⟩
      cases i with
      | zero =>
        simp at hi; subst hi
        exact ⟨b, l0, rfl, hk, hB, fun n t u e => by simp [hv n t u e], hd⟩
      | succ i => simpa using i3 i id (by simpa using hi)
    split at h
    · rename_i cells hbk
      rw [hbk] at hb
      obtain ⟨l0, hl0, g, cs, ty, rfl, hg, hall⟩ := hb
      obtain ⟨cells', _, _, h1, h2, _⟩ := run_bind h
      obtain ⟨⟨bs', vs'⟩, _, _, h3, h4, _⟩ := run_bind h2
      obtain ⟨h5, _⟩ := run_ret h4
      exact done _ _ _ _ _ _ h3 hl0 (by exact ⟨g, cs, ty, rfl, hg, mapLs_R (lend := false) hH hO (fun h => nomatch h) h1 hall⟩) (fun n t u e => nomatch e) (fun e => nomatch e) h5.symm
    · rename_i n t xs hbk
      rw [hbk] at hb
      obtain ⟨l0, hl0, v, vs, rfl, hmx, hown, hall⟩ := hb
      obtain ⟨⟨bs', vs'⟩, _, _, h3, h4, _⟩ := run_bind h
      obtain ⟨h5, _⟩ := run_ret h4
      exact done _ _ _ _ _ _ h3 hl0 (by exact ⟨v, vs, rfl, hmx, hown, .of hall.length fun j u x hu hx => by
        obtain ⟨y, hy, hr⟩ := hall.get' hu
        rw [hx] at hy; injection hy with hy; subst hy
        exact hr.pure hO (pure_cells t xs x (List.mem_of_getElem? hx))⟩) (fun n t u e => by injection e with e; subst e; rfl) (fun e => nomatch e) h5.symm
    · rename_i sb hbk
      rw [hbk] at hb
      obtain ⟨l0, hl0, g, v, p, ty, vs, rfl, h6⟩ := hb
      obtain ⟨⟨bs', vs'⟩, _, _, h3, h4, _⟩ := run_bind h
      obtain ⟨h5, _⟩ := run_ret h4
      exact done _ _ _ _ _ _ h3 hl0 (by exact ⟨g, v, p, ty, vs, rfl, h6⟩) (fun n t u e => nomatch e) (fun e => nomatch e) h5.symm
    · exact (run_fail h).elim

theorem mapBs_R (hH : HRel tid F I hp w) (hF' : ∀ b, F' b → Own F I b) (hap : ∀ b, F' b → ∀ i l, sel I J i = some l → ¬ l.has b) (hnd : nodupB J = true) {bs : List Blk} {vers l : List Nat} (h : (mapBs J J).run hp = some ((bs, vers), l)) :
    HRel tid F' (sel I J) (bs.map some) w := by
  have hO : ∀ b, Own F' (sel I J) b → Own F I b := by
    intro b hb
    rcases hb with hb | ⟨i, l, hi, hb⟩
    · exact hF' b hb
    · obtain ⟨id, l0, _, h0, rfl⟩ := sel_some hi
      exact .inr ⟨id, l0, h0, reset_has.1 hb⟩
  obtain ⟨h1, h2, h3⟩ := mapBs_get (O' := Own F' (sel I J)) hH hO h
  refine ⟨fun i => ?_, fun i j l l' b hi hj hb hb' => ?_, fun i l b hi hb hF => hap b hF i l hi hb, fun i l b hi hb => ?_, fun b hb => ?_, hH.glob.sub hO⟩
  · cases hj : J[i]? with
    | none =>
      have : i ≥ bs.length := by rw [h1]; exact List.getElem?_eq_none_iff.1 hj
      have e : (bs.map some).getD i none = none := by rw [List.getD_eq_getElem?_getD, List.getElem?_eq_none (by simpa using this)]; rfl
      rw [e]
      show sel I J i = none
      unfold sel; rw [hj]
    | some id =>
      obtain ⟨b, l0, hb, h0, hB, _⟩ := h3 i id hj
      have e : (bs.map some).getD i none = some b := by rw [List.getD_eq_getElem?_getD, List.getElem?_map, hb]; rfl
      rw [e]
      exact ⟨reset l0, by unfold sel; rw [hj]; simp [h0], hB⟩
  · obtain ⟨id, l0, hJ, h0, rfl⟩ := sel_some hi
    obtain ⟨id', l0', hJ', h0', rfl⟩ := sel_some hj
    have := hH.inj id id' l0 l0' b h0 h0' (reset_has.1 hb) (reset_has.1 hb')
    subst this
    exact nodupB_inj hnd hJ hJ'
  · obtain ⟨id, l0, _, h0, rfl⟩ := sel_some hi
    exact hH.lt id l0 b h0 (reset_has.1 hb)
  · rcases hF' b hb with h | ⟨id, l, h, h'⟩
    · exact hH.out b h
    · exact hH.lt id l b h h'
end

def Meets (cx : Cx) (f : Nat) (args : List AV) (hp : List Blk) (ans : Ans) : Prop :=
  ∀ (F : Nat → Prop) (I : Im) (w : World) (vals : List Value), HRel cx.tid F I (hp.map some) w → All2 (ValR1 w (Own F I) I) vals args → (∀ p, ans.pre = some p → p) →
    Calls cx.P f vals.toArray w fun e w' => ∃ v I', e = .returned v ∧ ValR w' (Own F I') I' v ans.res ∧ HRel cx.tid F I' ((ans.hp ++ ans.extra).map some) w' ∧ (∀ p, ans.given = some p → p) ∧
      (∀ i, i < hp.length → (∀ b, I i = some (.box b) → I' i = some (.box b)) ∧ (∀ b v, I i = some (.bld b v) → ∃ v', I' i = some (.bld b v')) ∧ (∀ n t v, I i = some (.row n t v) → ∃ n' t' v', I' i = some (.row n' t' v') ∧ (hasN ans.same i = true → n' = 0 ∧ t' = t ∧ (n = 0 → v' = v)))) ∧
      (∀ i l b, I' i = some l → l.has b → (∃ j l0, I j = some l0 ∧ l0.has b) ∨ w.heap.size ≤ b) ∧
      w'.os = w.os ∧ w'.tape = w.tape ∧ w'.output = w.output ∧ w.heap.size ≤ w'.heap.size ∧ (∀ b, b < w.heap.size → (∀ i l, I i = some l → ¬ l.has b) → w'.heap[b]? = w.heap[b]?)
end Go.Proofs.YtnhipiedjekkpaaGreatDoor.AX
end
section
namespace Go.Proofs.YtnhipiedjekkpaaGreatDoor.AX
open Go Go.RowKit

def shift (n : Nat) : Loc → Loc
  | .row m t v => .row (n + m) t v
  | l => l
theorem shift_has {n : Nat} {l : Loc} {b : Nat} : (shift n l).has b ↔ l.has b := by cases l <;> exact Iff.rfl

theorem LeafR.flat {w : World} {O O' : Nat → Prop} {I I' : Im} {v : Value} {x : AV} (h : LeafR w O I v x) (hp : pureL x) (hf : flatLeaf x = true) : LeafR w O' I' v x := by
  cases h with
  | lit b => exact .lit b
  | bool b => exact .bool b
  | int k n => exact .int k n
  | str s h => exact .str s h
  | nil => exact .nil
  | nilptr => exact .nilptr
  | zrow ad c => exact .zrow ad c
  | row0 t => exact .row0 t
  | rowz ad c t => exact .rowz ad c t
  | row => cases hf
  | own => exact hp.elim
  | ptr => exact hp.elim
  | optr => exact hp.elim
  | pin => cases hf
  | fn f caps cs hl h =>
    cases caps with
    | nil =>
      obtain rfl := List.eq_nil_of_length_eq_zero hl
      exact .fn f [] [] rfl fun j u x hu _ => by simp at hu
    | cons => exact hp.elim
  | any v h1 => exact .any v h1

section
variable {w : World} {O O' : Nat → Prop} {I I' : Im} {J vers : List Nat} {fr : Nat}
theorem renL_R (hI : ∀ i l, I i = some l → I' (renId J fr i) = some (shift (vers.getD i 0) l)) {v : Value} {x : AV} (hO : (∀ b, O' b → O b) ∨ flatLeaf x = true) (h : LeafR w O I v x) : LeafR w O' I' v (renL J vers fr x) := by
  have keep : pureL x → renL J vers fr x = x → LeafR w O' I' v (renL J vers fr x) := by
    intro hp e
    rw [e]
    rcases hO with hO | hO
    · exact h.pure hO hp
    · exact h.flat hp hO
  cases x with
  | own i n =>
    obtain ⟨h0, h1, h2⟩ := ValR.own (show ValR w O I v _ from h)
    obtain ⟨l, hl⟩ := Option.isSome_iff_exists.1 h0
    have hl' := hI i l hl
    refine .own v _ _ (by rw [hl']; rfl) h1 fun m t u hm => ?_
    rw [hl'] at hm
    injection hm with hm
    cases l <;> simp only [shift] at hm <;> cases hm
    have := h2 _ _ _ hl
    exact ⟨by omega, fun e => this.2 (by omega)⟩
  | ptr i off =>
    obtain ⟨h0, h1, h2, h3⟩ := ValR.ptr (show ValR w O I v _ from h)
    obtain ⟨l, hl⟩ := Option.isSome_iff_exists.1 h0
    have hl' := hI i l hl
    refine .ptr v _ _ (by rw [hl']; rfl) h1 (fun b hb => ?_) (fun b u hb h0 => ?_)
    · rw [hl'] at hb
      injection hb with hb
      cases l <;> simp only [shift] at hb <;> cases hb
      exact h2 _ hl
    · rw [hl'] at hb
      injection hb with hb
      cases l <;> simp only [shift] at hb <;> cases hb
      exact h3 _ _ hl h0
  | optr => exact .any _ h.one
  | fn f caps =>
    cases caps with
    | nil =>
      obtain ⟨cs, rfl, hall⟩ := ValR.fn (show ValR w O I v _ from h)
      cases hall
      exact .fn _ _ [] rfl (fun j u x hu => by simp at hu)
    | cons => exact .any _ h.one
  | agg => exact .any _ h.one
  | tup => exact .any _ h.one
  | _ => exact keep trivial rfl
theorem renLs_R (hI : ∀ i l, I i = some l → I' (renId J fr i) = some (shift (vers.getD i 0) l)) {vs : List Value} {xs : List AV} (hO : (∀ b, O' b → O b) ∨ xs.all flatLeaf = true) (h : All2 (LeafR w O I) vs xs) : All2 (LeafR w O' I') vs (xs.map (renL J vers fr)) := by
  induction h with
  | nil => exact .nil
  | cons h _ ih =>
    refine .cons (renL_R hI (hO.imp id fun h => ?_) h) (ih (hO.imp id fun h => ?_))
    · simp at h; exact h.1
    · simp at h ⊢; exact h.2
theorem renV1_R (hI : ∀ i l, I i = some l → I' (renId J fr i) = some (shift (vers.getD i 0) l)) {v : Value} {x : AV} (hO : (∀ b, O' b → O b) ∨ flatOne x = true) (h : ValR1 w O I v x) : ValR1 w O' I' v (renV1 J vers fr x) := by
  cases x with
  | agg fs => obtain ⟨cs, e, h⟩ := h; exact ⟨cs, e, renLs_R hI hO h⟩
  | tup vs => obtain ⟨e, e'⟩ := h; subst e'; exact ⟨e, rfl⟩
  | any => trivial
  | _ => exact .leaf (renL_R hI hO h)
theorem renV_R (hI : ∀ i l, I i = some l → I' (renId J fr i) = some (shift (vers.getD i 0) l)) {v : Value} {x : AV} (hO : (∀ b, O' b → O b) ∨ flatAV x = true) (h : ValR w O I v x) : ValR w O' I' v (renV J vers fr x) := by
  by_cases e : ∃ vs, x = .tup vs
  · obtain ⟨vs, rfl⟩ := e
    obtain ⟨us, e, h⟩ := h
    refine ⟨us, e, ?_⟩
    clear e
    induction h with
    | nil => exact .nil
    | cons h _ ih =>
      refine .cons (renV1_R hI (hO.imp id fun h => ?_) h) (ih (hO.imp id fun h => ?_))
      · simp [flatAV] at h; exact h.1
      · simp [flatAV] at h ⊢; exact h.2
  · have e' : ∀ vs, x ≠ .tup vs := fun vs h => e ⟨vs, h⟩
    rw [ValR.is1 e'] at h
    have h1 : renV J vers fr x = renV1 J vers fr x := by cases x <;> first | rfl | exact absurd rfl (e' _)
    have h2 : flatAV x = flatOne x := by cases x <;> first | rfl | exact absurd rfl (e' _)
    rw [h1]
    rw [h2] at hO
    exact .of1 (renV1_R hI hO h)
theorem flat_leaves {t : Ty} (ht : flatTy t = true) (x : den t) : ∀ a ∈ leaves t x, flatLeaf a = true := by
  cases t <;> simp only [flatTy] at ht <;> first | (cases ht; done) | simp [leaves, twoL, pairL, flatLeaf]
theorem renB_R {tid : Env} (hI : ∀ i l, I i = some l → I' (renId J fr i) = some (shift (vers.getD i 0) l)) {i : Nat} {l : Loc} {b : Blk} (hO : (∀ b, O' b → O b) ∨ flatBlk b = true) (h : BlkR tid w O I l b) :
    BlkR tid w O' I' (shift (vers.getD i 0) l) (renB J vers fr i b) := by
  cases b with
  | box cells =>
    obtain ⟨g, cs, ty, rfl, hg, hall⟩ := h
    exact ⟨g, cs, ty, rfl, hg, renLs_R hI hO hall⟩
  | rowb n t xs =>
    obtain ⟨v, vs, rfl, hmx, hown, hall⟩ := h
    refine ⟨v, vs, rfl, hmx, hown, .of hall.length fun j u x hu hx => ?_⟩
    obtain ⟨y, hy, hr⟩ := hall.get' hu
    rw [hx] at hy; injection hy with hy; subst hy
    have hm := List.mem_of_getElem? hx
    rcases hO with hO | hO
    · exact hr.pure hO (pure_cells t xs x hm)
    · obtain ⟨z, _, hz⟩ := List.mem_flatMap.1 hm
      exact hr.flat (pure_cells t xs x hm) (flat_leaves hO z x hz)
  | bld s =>
    obtain ⟨g, v, p, ty, vs, rfl, h1⟩ := h
    exact ⟨g, v, p, ty, vs, rfl, h1⟩
  | dead =>
    have h : l = .dead := h
    subst h
    rfl
end

theorem setAll_other {id : Nat} : ∀ {l : List (Nat × Blk)} {hp : List (Option Blk)}, (∀ p ∈ l, p.1 ≠ id) → (setAll hp l).getD id none = hp.getD id none
  | [], _, _ => rfl
  | (k, b) :: l, hp, h => by
    simp only [setAll]
    rw [setAll_other (fun p hp => h p (.tail _ hp)), getD_set_ne (Ne.symm (h (k, b) (.head _)))]
theorem renBs_keys {J vers : List Nat} {fr : Nat} : ∀ {bs : List Blk} {i : Nat} {p : Nat × Blk}, p ∈ renBs J vers fr i bs → ∃ j, i ≤ j ∧ j < i + bs.length ∧ p.1 = renId J fr j
  | [], _, _, h => by cases h
  | b :: bs, i, p, h => by
    cases h with
    | head => exact ⟨i, Nat.le_refl _, by simp, rfl⟩
    | tail _ h =>
      obtain ⟨j, h1, h2, h3⟩ := renBs_keys h
      exact ⟨j, by omega, by simp; omega, h3⟩
theorem setAll_renBs {J vers : List Nat} {fr : Nat} : ∀ {bs : List Blk} {i : Nat} {hp : List (Option Blk)} (k : Nat) (b : Blk), bs[k]? = some b → (∀ j j', i ≤ j → j < i + bs.length → i ≤ j' → j' < i + bs.length → renId J fr j = renId J fr j' → j = j') →
    renId J fr (i + k) < hp.length → (setAll hp (renBs J vers fr i bs)).getD (renId J fr (i + k)) none = some (renB J vers fr (i + k) b)
  | [], _, _, _, _, h, _, _ => by simp at h
  | b0 :: bs, i, hp, k, b, h, hinj, hlt => by
    simp only [renBs, setAll]
    cases k with
    | zero =>
      simp at h; subst h
      rw [setAll_other (fun p hp e => ?_)]
      · simpa using getD_set_same (by simpa using hlt) (some (renB J vers fr i b0))
      · obtain ⟨j, h1, h2, h3⟩ := renBs_keys hp
        have := hinj j i (by omega) (by simp; omega) (Nat.le_refl _) (by simp) (by rw [← h3]; exact e)
        omega
    | succ k =>
      have e : i + (k + 1) = (i + 1) + k := by omega
      rw [e] at hlt ⊢
      exact setAll_renBs k b (by simpa using h) (fun j j' h1 h2 h3 h4 h5 => hinj j j' (by omega) (by simp; omega) (by omega) (by simp; omega) h5) (by simpa using hlt)
end Go.Proofs.YtnhipiedjekkpaaGreatDoor.AX
end

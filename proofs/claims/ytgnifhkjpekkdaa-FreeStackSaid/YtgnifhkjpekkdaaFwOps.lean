/- The words in which printed trees are written; what they mean. -/
import Derived.Test.YtgnifhkjpekkdaaFwSound
namespace Go.Fw
open Go

def w64 (x : Int) : Int := IntKind.wrap .i64 x
def iand (x y : Int) : Int := w64 (((BitVec.ofInt 64 x &&& BitVec.ofInt 64 y).toNat : Nat) : Int)
def ior (x y : Int) : Int := w64 (((BitVec.ofInt 64 x ||| BitVec.ofInt 64 y).toNat : Nat) : Int)

def imax (x y : Int) : Int := if y > x then y else x
def imin (x y : Int) : Int := if y < x then y else x

def envOf (vs : List Value) : Operand → Value
  | .tmp t => vs.getD t undef
  | .const v => v
  | .global g => .pointer (some ⟨g, 0, none⟩)
  | .func f => .func (.func f) #[] #[]

/-- An operation's meaning at its operands. -/
def opS (P : Program) (op : Op) (ty : TypeId) (vs : List Value) : Sem Next :=
  nf P (execOp (envOf vs) { dst := none, op := op, type := ty, pos := "", after := #[], guard := none })

def ldS (a : Addr) : Sem Next := .load .plain a fun v => .pure (.value v)

def ldAS (a : Addr) : Nat → Nat → Array Value → Sem Next
  | 0, _, acc => .pure (.value (.agg acc))
  | n + 1, i, acc => .load .plain (a.add i) fun v => ldAS a n (i + 1) (acc.push v)

def stAS (a : Addr) : List Value → Nat → Sem Next
  | [], _ => .pure .skip
  | v :: l, i => .store .plain (a.add i) v (stAS a l (i + 1))

def ldK (a : Addr) : Nat → Nat → Array Value → (Array Value → Sem Next) → Sem Next
  | 0, _, acc, k => k acc
  | n + 1, i, acc, k => .load .plain (a.add i) fun v => ldK a n (i + 1) (acc.push v) k

@[reducible] def Tree.ld (a : Addr) (l : Leaf) (k : l.T → Tree) : Tree := .look (ldS a) (.one (.leaf l)) k
@[reducible] def Tree.ldA (a : Addr) (ls : List Leaf) (k : HL Leaf.T ls → Tree) : Tree := .look (ldAS a ls.length 0 #[]) (.one (.agg ls)) k
@[reducible] def Tree.st (a : Addr) (v : Value) (k : Tree) : Tree := .act (.store .plain a v (.pure .skip)) .unit fun _ => k
@[reducible] def Tree.stA (a : Addr) (vs : List Value) (k : Tree) : Tree := .act (stAS a vs 0) .unit fun _ => k
@[reducible] def Tree.call (f : FuncId) (args : List Value) (sh : Sh) (k : sh.T → Tree) : Tree := .act (.pure (.enter f args.toArray)) sh k
@[reducible] def Tree.qcall (f : FuncId) (args : List Value) (sh : Sh) (k : sh.T → Tree) : Tree := .look (.pure (.enter f args.toArray)) sh k
@[reducible] def Tree.newP (o : Obj) (k : Addr → Tree) : Tree := .make (.new o fun b => .pure (.value (.pointer (some ⟨b, 0, none⟩)))) (.one (.leaf .addr)) k
@[reducible] def Tree.newS (o : Obj) (n : Nat) (k : Sl → Tree) : Tree := .make (.new o fun b => .pure (.value (.slice (some ⟨b, 0, none⟩) n n))) (.one (.leaf .slice)) k
@[reducible] def Tree.newM (k : Option Nat → Tree) : Tree := .make (.new (.map #[] 0) fun b => .pure (.value (.map (some b)))) (.one (.leaf .map)) k

end Go.Fw

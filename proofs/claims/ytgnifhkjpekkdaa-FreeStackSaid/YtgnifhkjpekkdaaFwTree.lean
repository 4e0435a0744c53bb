/- Go code as a tree of what it does to memory; what a tree does; that the code does what its tree does. -/
import Derived.Test.YtgnifhkjpekkdaaFwHeap
namespace Go.Fw
open Go

inductive Leaf where
  | int (k : IntKind) | bool | ptr | addr | slice | map | fnc | ifc | val

structure Sl where
  a : Option Addr
  len : Nat
  cap : Nat

structure Fnv where
  fn : Fn
  first : Array Value
  cap : Array Value

structure Ifv where
  t : TypeId
  v : Value

@[reducible] def Leaf.T : Leaf → Type
  | .int _ => Int
  | .bool => Bool
  | .ptr => Option Addr
  | .addr => Addr
  | .slice => Sl
  | .map => Option Nat
  | .fnc => Fnv
  | .ifc => Ifv
  | .val => Value

@[reducible] def Leaf.toVal : (l : Leaf) → l.T → Value
  | .int k, n => .int k n
  | .bool, b => .bool b
  | .ptr, p => .pointer p
  | .addr, a => .pointer (some a)
  | .slice, s => .slice s.a s.len s.cap
  | .map, r => .map r
  | .fnc, x => .func x.fn x.first x.cap
  | .ifc, x => .iface x.t x.v
  | .val, v => v

@[reducible] def HL {α : Type} (f : α → Type) : List α → Type
  | [] => Unit
  | a :: l => f a × HL f l

@[reducible] def HL.vals {α β : Type} {f : α → Type} (g : (a : α) → f a → β) : (l : List α) → HL f l → List β
  | [], _ => []
  | a :: l, x => g a x.1 :: HL.vals g l x.2

inductive Sh1 where
  | leaf (l : Leaf) | agg (ls : List Leaf)

@[reducible] def Sh1.T : Sh1 → Type
  | .leaf l => l.T
  | .agg ls => HL Leaf.T ls

@[reducible] def Sh1.toVal : (s : Sh1) → s.T → Value
  | .leaf l, x => l.toVal x
  | .agg ls, x => .agg (HL.vals Leaf.toVal ls x).toArray

inductive Sh where
  | one (s : Sh1) | tup (ss : List Sh1) | unit

@[reducible] def Sh.T : Sh → Type
  | .one s => s.T
  | .tup ss => HL Sh1.T ss
  | .unit => Unit

@[reducible] def Sh.toVal : (s : Sh) → s.T → Value
  | .one s, x => s.toVal x
  | .tup ss, x => .tuple (HL.vals Sh1.toVal ss x).toArray
  | .unit, _ => undef

@[reducible] def toVals (shs : List Sh1) (x : HL Sh1.T shs) : List Value := HL.vals Sh1.toVal shs x

inductive Tree : Type where
  | ret (v : Value)
  | look (s : Sem Next) (sh : Sh) (k : sh.T → Tree)
  | act (s : Sem Next) (sh : Sh) (k : sh.T → Tree)
  | loop (n : Nat) (shs : List Sh1) (init : List Value) (body : HL Sh1.T shs → Tree)
  | again (n : Nat) (vals : List Value)
  | both (t u : Tree)
  | check (s : Sem Next) (v : Value) (t : Tree)
  | make (s : Sem Next) (sh : Sh) (k : sh.T → Tree)
  | fail

/-- A call of function f, at whatever world that holds the view, ends by returning, and R. -/
def SpecF (P : Program) (f : FuncId) (args : Array Value) (H : Heap) (R : Value → Heap → Prop) : Prop :=
  ∀ w0 w, Holds w0 w H → Calls P f args w fun e w' => ∃ v H', e = .returned v ∧ Holds w0 w' H' ∧ R v H'

def nextW (P : Program) (n : Next) (H : Heap) (R : Value → Heap → Prop) : Prop :=
  match n with
  | .value v => R v H
  | .skip => R undef H
  | .enter f args => SpecF P f args H R
  | _ => False

def nextL (P : Program) (n : Next) (H : Heap) (v : Value) : Prop :=
  match n with
  | .value u => u = v
  | .enter f args => SpecF P f args H fun u H' => u = v ∧ H.le H'
  | _ => False

/-- A meaning that makes one new block, and nothing else: which one; its value. -/
def amade (P : Program) : Sem Next → Value → Prop
  | .pure (.value u), v => u = v
  | .program k, v => amade P (k P) v
  | .mark _ k, v => amade P k v
  | _, _ => False

def amake (P : Program) : Sem Next → Obj → (Nat → Value) → Prop
  | .new o' k, o, val => (o' = o ∧ Obj.plain o = true) ∧ ∀ b, amade P (k b) (val b)
  | .program k, o, val => amake P (k P) o val
  | .mark _ k, o, val => amake P k o val
  | _, _, _ => False

abbrev Hands := Nat → List Value → Heap → Prop

def Hands.set (L : Hands) (n : Nat) (C : List Value → Heap → Prop) : Hands := fun m => if m = n then C else L m

def wp (P : Program) : Tree → Hands → Heap → (Value → Heap → Prop) → Prop
  | .ret v, _, H, R => ∃ H' : Heap, H'.le H ∧ R v H'
  | .look s sh k, L, H, R => ∃ x, astill P s H (fun n => nextL P n H (sh.toVal x)) ∧ wp P (k x) L H R
  | .act s sh k, L, H, R => arun P s H fun n H' => nextW P n H' fun v H'' => ∃ x, v = sh.toVal x ∧ wp P (k x) L H'' R
  | .loop n shs init body, L, H, R => ∃ x0, init = toVals shs x0 ∧ ∀ C : HL Sh1.T shs → Heap → Prop,
      (∀ x H', wp P (body x) (L.set n fun vals H'' => ∃ x', vals = toVals shs x' ∧ C x' H'') H' R → C x H') → C x0 H
  | .again n vals, L, H, _ => L n vals H
  | .both t u, L, H, R => wp P t L H R ∧ wp P u L H R
  | .check s v t, L, H, R => astill P s H (fun n => nextL P n H v) ∧ wp P t L H R
  | .make s sh k, L, H, R => ∃ o val, amake P s o val ∧ ∀ b, H b = none → ∃ x, val b = sh.toVal x ∧ wp P (k x) L (H.set b o) R
  | .fail, _, _, _ => False

theorem SpecF.mono {P : Program} {f : FuncId} {args : Array Value} {H : Heap} {R R' : Value → Heap → Prop} (h : SpecF P f args H R)
    (hr : ∀ v H', R v H' → R' v H') : SpecF P f args H R' :=
  fun w0 w hw => (h w0 w hw).mono fun _ _ ⟨v, H', he, hh, hR⟩ => ⟨v, H', he, hh, hr _ _ hR⟩

theorem SpecF.less {P : Program} {f : FuncId} {args : Array Value} {H : Heap} {R R' : Value → Heap → Prop} (h : SpecF P f args H R)
    (hr : ∀ v H', R v H' → ∃ H2 : Heap, H2.le H' ∧ R' v H2) : SpecF P f args H R' :=
  fun w0 w hw => (h w0 w hw).mono fun _ _ ⟨v, _, he, hh, hR⟩ => let ⟨H2, hl, h2⟩ := hr _ _ hR; ⟨v, H2, he, hh.le hl, h2⟩

theorem nextW_mono {P : Program} {n : Next} {H : Heap} {R R' : Value → Heap → Prop} (h : nextW P n H R) (hr : ∀ v H', R v H' → R' v H') : nextW P n H R' := by
  cases n <;> simp only [nextW] at * <;> first | exact hr _ _ h | exact h.mono hr | exact h

theorem arun_mono {P : Program} {α : Type} (s : Sem α) : ∀ {H : Heap} {Q Q' : α → Heap → Prop}, arun P s H Q → (∀ a H', Q a H' → Q' a H') → arun P s H Q' := by
  induction s with
  | pure a => intro H Q Q' h hq; exact hq _ _ h
  | load m a k ih => intro H Q Q' h hq; obtain ⟨v, hc, h⟩ := h; exact ⟨v, hc, ih v h hq⟩
  | store m a v k ih => intro H Q Q' h hq; exact ⟨h.1, h.2.1, h.2.2.1, ih h.2.2.2 hq⟩
  | new o k ih => intro H Q Q' h hq; exact ⟨h.1, fun b hb => ih b (h.2 b hb) hq⟩
  | shape r k ih => intro H Q Q' h hq; exact ⟨h.1, ih _ h.2 hq⟩
  | frozen a k ih => intro H Q Q' h hq; exact ⟨h.1, ih _ h.2 hq⟩
  | getObj r k ih => intro H Q Q' h hq; obtain ⟨o, h1, h2, h3⟩ := h; exact ⟨o, h1, h2, ih _ h3 hq⟩
  | setObj r o k ih => intro H Q Q' h hq; exact ⟨h.1, h.2.1, ih h.2.2 hq⟩
  | choose q k ih => intro H Q Q' h hq; exact ⟨fun e => ih _ (h.1 e) hq, fun e t => ih _ (h.2 e t) hq⟩
  | program k ih => intro H Q Q' h hq; exact ih P h hq
  | mark m k ih => intro H Q Q' h hq; exact ih h hq
  | _ => intro H Q Q' h; exact h.elim

theorem wp_mono {P : Program} (t : Tree) : ∀ {L L' : Hands} {H : Heap} {R R' : Value → Heap → Prop}, wp P t L H R → (∀ n vals H', L n vals H' → L' n vals H') →
    (∀ v H', R v H' → R' v H') → wp P t L' H R' := by
  induction t with
  | ret v => intro L L' H R R' h _ hr; obtain ⟨H', h1, h2⟩ := h; exact ⟨H', h1, hr _ _ h2⟩
  | look s sh k ih => intro L L' H R R' h hl hr; obtain ⟨x, h1, h2⟩ := h; exact ⟨x, h1, ih x h2 hl hr⟩
  | act s sh k ih =>
    intro L L' H R R' h hl hr
    exact arun_mono s h fun _ _ h' => nextW_mono h' fun _ _ ⟨x, hx, h2⟩ => ⟨x, hx, ih x h2 hl hr⟩
  | loop n shs init body ih =>
    intro L L' H R R' h hl hr
    obtain ⟨x0, h0, h⟩ := h
    refine ⟨x0, h0, fun C hC => h C fun x H' hx => hC x H' (ih x hx (fun m vals H'' hm => ?_) hr)⟩
    unfold Hands.set at *
    split at hm
    · rename_i e; rw [if_pos e]; exact hm
    · rename_i e; rw [if_neg e]; exact hl _ _ _ hm
  | again n vals => intro L L' H R R' h hl _; exact hl _ _ _ h
  | both t u iht ihu => intro L L' H R R' h hl hr; exact ⟨iht h.1 hl hr, ihu h.2 hl hr⟩
  | check s v t ih => intro L L' H R R' h hl hr; exact ⟨h.1, ih h.2 hl hr⟩
  | make s sh k ih =>
    intro L L' H R R' h hl hr
    obtain ⟨o, val, hm, h⟩ := h
    exact ⟨o, val, hm, fun b hb => let ⟨x, hx, h⟩ := h b hb; ⟨x, hx, ih x h hl hr⟩⟩
  | fail => intro L L' H R R' h; exact h.elim

/-! ### Code as a tree -/

/-- Slots by number: odd ones to the left, even ones to the right. -/
inductive Fr where
  | leaf
  | node (l : Fr) (x : Option Value) (r : Fr)

def Fr.get : Fr → Nat → Option Value
  | .leaf, _ => none
  | .node l x r, t => bif Nat.beq t 0 then x else bif Nat.beq (t % 2) 1 then l.get (t / 2) else r.get (t / 2 - 1)

def Fr.upd : Fr → Nat → Option Value → Fr
  | .leaf, _, _ => .leaf
  | .node l x r, t, v => bif Nat.beq t 0 then .node l v r else bif Nat.beq (t % 2) 1 then .node (l.upd (t / 2) v) x r else .node l x (r.upd (t / 2 - 1) v)

def Fr.mkF : Nat → Nat → Fr
  | 0, _ => .leaf
  | d + 1, n => bif Nat.beq n 0 then .leaf else .node (Fr.mkF d (n / 2)) none (Fr.mkF d ((n - 1) / 2))

def Fr.put (fr : Fr) (d : Option Tmp) (v : Value) : Fr :=
  match d with
  | none => fr
  | some d => fr.upd d (some v)

def Fr.eval (fr : Fr) : Operand → Option Value
  | .tmp t => fr.get t
  | .const v => some v
  | .global g => some (.pointer (some ⟨g, 0, none⟩))
  | .func f => some (.func (.func f) #[] #[])

def Fr.ev (fr : Fr) (x : Operand) : Value := (fr.eval x).getD undef

def leafOf : Value → Leaf
  | .int k _ => .int k
  | .bool _ => .bool
  | .pointer _ => .ptr
  | .slice _ _ _ => .slice
  | .map _ => .map
  | .func _ _ _ | .nilFunc => .val
  | .iface _ _ | .nilIface => .val
  | _ => .val

def shOf : Value → Sh1
  | .agg cs => .agg (cs.toList.map leafOf)
  | v => .leaf (leafOf v)

def shOfType (P : Program) (t : TypeId) : Sh1 :=
  match (P.types[t]?).bind (·.zero) with
  | some z => shOf z
  | none => .leaf .val

def shOfResult (P : Program) (t : TypeId) : Sh :=
  match ((P.types[t]?).map (·.desc) : Option TypeDesc) with
  | some (TypeDesc.tuple ts) => match ts.toList with
    | [] => .unit
    | ts => .tup (ts.map (shOfType P))
  | _ => .one (shOfType P t)

structure Cfg where
  quiet : List FuncId := []
  quietTmp : Bool := false
  fncs : List Nat := []
  ifcs : List Nat := []

inductive Kind where
  | pure | look (sh : Sh) | act (sh : Sh) | make (sh : Sh)

def isInt (P : Program) (t : TypeId) : Bool :=
  match shOfType P t with
  | .leaf (.int _) | .leaf .bool => true
  | _ => false

def isTable (P : Program) (t : TypeId) : Bool :=
  match P.underlying t with
  | some (.array _ _) => true
  | _ => false

def kindOf (P : Program) (cfg : Cfg) (o : Oper) : Kind :=
  match o.op with
  | .move _ | .assign _ | .build _ _ | .fieldAddr _ _ _ | .field _ _ _ | .unOp _ _ _ | .convert _ _ _ | .makeInterface _ _ | .makeFunc _ _ _ | .extract _ _ => .pure
  | .binOp op t _ y _ =>
    match op with
    | .quo | .rem => match y with
      | .const _ => .pure
      | _ => .look (.one (shOfType P o.type))
    | .shl | .shr => match y with
      | .const _ => .pure
      | _ => .look (.one (shOfType P o.type))
    | .eql | .neq => if isInt P t then .pure else .look (.one (.leaf .bool))
    | _ => .pure
  | .indexAddr t _ i => match i with
    | .const _ => if isTable P t then .pure else .look (.one (.leaf .addr))
    | _ => .look (.one (.leaf .addr))
  | .index t _ i => match i with
    | .const _ => if isTable P t then .pure else .look (.one (shOfType P o.type))
    | _ => .look (.one (shOfType P o.type))
  | .nilCheck _ => match o.dst with
    | some d => if cfg.fncs.contains d then .look (.one (.leaf .val)) else if cfg.ifcs.contains d then .look (.one (.leaf .val)) else .look (.one (.leaf .addr))
    | none => .look (.one (.leaf .addr))
  | .load t _ => .look (.one (shOfType P t))
  | .lookup _ _ _ _ => .look (shOfResult P o.type)
  | .slice _ _ _ _ _ => .look (.one (.leaf .slice))
  | .call { callee := .builtin b, .. } =>
    match b with
    | .len | .cap | .min | .max => .pure
    | .append => .act (.one (.leaf .slice))
    | .copy => .act (.one (.leaf (.int .i64)))
    | _ => .act (shOfResult P o.type)
  | .call { callee := .value (.func f), .. } => if cfg.quiet.contains f then .look (shOfResult P o.type) else .act (shOfResult P o.type)
  | .call { callee := .value _, .. } => if cfg.quietTmp then .look (shOfResult P o.type) else .act (shOfResult P o.type)
  | .call _ => .act (shOfResult P o.type)
  | .alloc _ | .box _ _ => .make (.one (.leaf .addr))
  | .makeMap _ _ => .make (.one (.leaf .map))
  | .makeSlice _ _ _ | .buildSlice _ _ _ => .make (.one (.leaf .slice))
  | .mapEntry t _ _ => match P.underlying t with
    | some (.map _ e) => .act (.tup [shOfType P e, .leaf (.int .i64)])
    | _ => .act .unit
  | .store _ _ _ | .mapUpdate _ _ _ _ | .insert _ _ _ _ | .entryStore _ _ _ _ => .act .unit
  | _ => .act (shOfResult P o.type)

def Op.isSelect : Op → Bool
  | .select _ _ => true
  | _ => false

def goOp (P : Program) (cfg : Cfg) (o : Oper) (fr : Fr) (K : Fr → Tree) : Tree :=
  match o.op with
  | .pick c a b =>
    match fr.eval c with
    | some (.bool t) => bif t then (match fr.eval a with | some v => K (fr.put o.dst v) | none => .fail) else (match fr.eval b with | some v => K (fr.put o.dst v) | none => .fail)
    | _ => .fail
  | op =>
    if Op.isSelect op then .fail else
    if op.operands.all (fun x => (fr.eval x).isSome) then
      match kindOf P cfg o with
      | .pure => match pureRun P (execOp fr.ev o) with
        | some v => K (fr.put o.dst v)
        | none => .fail
      | .look sh => .look (nf P (execOp fr.ev o)) sh fun x => K (fr.put o.dst (sh.toVal x))
      | .act sh => .act (nf P (execOp fr.ev o)) sh fun x => K (fr.put o.dst (sh.toVal x))
      | .make sh => .make (nf P (execOp fr.ev o)) sh fun x => K (fr.put o.dst (sh.toVal x))
    else .fail

def oneOp (P : Program) (cfg : Cfg) (ops : Array Oper) (o : Oper) (fr : Fr) (K : Fr → Tree) : Tree :=
  match o.guard with
  | none => goOp P cfg o fr K
  | some (j, want) =>
    match (ops[j]?).bind (·.dst) with
    | none => .fail
    | some t =>
      match fr.get t with
      | some (.bool b) =>
        bif b then (bif want then goOp P cfg o (fr.upd t (some (.bool true))) K else K (Fr.put (fr.upd t (some (.bool true))) o.dst undef))
        else (bif want then K (Fr.put (fr.upd t (some (.bool false))) o.dst undef) else goOp P cfg o (fr.upd t (some (.bool false))) K)
      | some (.tuple _) => K (fr.put o.dst undef)
      | _ => .fail

def opsTree (P : Program) (cfg : Cfg) (ops : Array Oper) : List Oper → Fr → (Fr → Tree) → Tree
  | [], fr, K => K fr
  | o :: l, fr, K => oneOp P cfg ops o fr fun fr' => opsTree P cfg ops l fr' K

inductive Ex where
  | normal | exit (id : Nat) | goto (l : Nat) | ret

@[reducible] def Ex.toExit : Ex → Exit
  | .normal => .normal
  | .exit i => .exit i
  | .goto l => .goto l
  | .ret => .ret

def writes : Code → List Nat
  | .region _ ops _ => ops.toList.filterMap (·.dst)
  | .seq a b | .cond _ a b => writes a ++ writes b
  | .block _ c | .loop c | .scope c => writes c
  | _ => []

def firstRegion : Code → Nat
  | .region id _ _ => id
  | .seq a _ | .cond _ a _ => firstRegion a
  | .block _ c | .loop c | .scope c => firstRegion c
  | _ => 0

def nest : Code → Nat
  | .seq a b | .cond _ a b => max (nest a) (nest b)
  | .block _ c | .scope c => nest c
  | .loop c => nest c + 1
  | _ => 0

def loopName (body : Code) : Nat := firstRegion body * 64 + nest body

def names : Code → List Nat
  | .seq a b | .cond _ a b => names a ++ names b
  | .block _ c | .scope c => names c
  | .loop c => loopName c :: names c
  | _ => []

def Fr.forget (fr : Fr) (W : List Nat) : Fr := W.foldl (fun f i => f.upd i none) fr

def Fr.setAll (fr : Fr) : List Nat → List Value → Fr
  | i :: is, v :: vs => Fr.setAll (fr.upd i (some v)) is vs
  | _, _ => fr

def Fr.getAll (fr : Fr) : List Nat → Option (List Value)
  | [] => some []
  | i :: is => match fr.get i with
    | some v => match Fr.getAll fr is with
      | some vs => some (v :: vs)
      | none => none
    | none => none

def slotsOf (fr : Fr) (W : List Nat) : List Nat := (List.range (W.foldl Nat.max 0 + 1)).filter fun i => W.contains i && (fr.get i).isSome

def inScopeTree (den : Code → Fr → (Ex → Fr → Tree) → Tree) (c : Code) : Nat → Code → Fr → (Ex → Fr → Tree) → Tree
  | 0, _, _, _ => .fail
  | g + 1, code, fr, K => den code fr fun e fr' => match e with
    | .goto l => match findLabel c l with
      | some rest =>
        if (writes rest).all (fun i => (writes c).contains i) && (names rest).all (fun i => (names c).contains i) then inScopeTree den c g rest fr' K else .fail
      | none => .fail
    | e => K e fr'

def behind (ops : Array Oper) (j : Nat) : List Nat :=
  match ops[j]? with
  | some o => (o.after.toList.filter fun e => Region.binds .any e).map (·.on)
  | none => []

def ancs (ops : Array Oper) : Nat → List Nat → List Nat → List Nat
  | 0, _, seen => seen
  | _ + 1, [], seen => seen
  | f + 1, x :: w, seen => bif seen.any (Nat.beq x) then ancs ops f w seen else ancs ops f (behind ops x ++ w) (x :: seen)

/-- Must operation j wait for operation i? -/
def reach (ops : Array Oper) (f j i : Nat) : Bool := (ancs ops (f * f + f) (behind ops j) []).any (Nat.beq i)

structure Pend where
  i : Nat
  s : Sem Next
  v : Value

def checks : List Pend → Tree → Tree
  | [], t => t
  | p :: l, t => .check p.s p.v (checks l t)

def Pend.after (ops : Array Oper) (j : Nat) (l : List Pend) : List Pend := l.filter fun p => !reach ops ops.size j p.i

/-- 0: neither looks nor turns; 1: looks; 2: all else. -/
def tag (P : Program) (cfg : Cfg) (o : Oper) : Nat :=
  match o.op with
  | .pick _ _ _ => 0
  | _ => match kindOf P cfg o with
    | .pure => 0
    | .look _ => 1
    | _ => 2

def wantedAs (ops : Array Oper) (o : Oper) (fr : Fr) : Option Bool :=
  match o.guard with
  | none => some true
  | some (j, want) =>
    match (ops[j]?).bind (·.dst) with
    | none => none
    | some t =>
      match fr.get t with
      | some (.bool b) => some (b == want)
      | some (.tuple _) => some false
      | _ => none

def dstFree (ops : Array Oper) (o : Oper) : Bool :=
  match o.dst with
  | some d => !(o.looksAt ops).contains d
  | none => true

def findReady (P : Program) (cfg : Cfg) (ops : Array Oper) (listed : Array Bool) (k : Nat) : List Nat → Option Nat
  | [] => none
  | i :: l => match ops[i]? with
    | some o => if tag P cfg o == k && Region.free .any ops listed i then some i else findReady P cfg ops listed k l
    | none => findReady P cfg ops listed k l

/-- Operations that make a block, or nothing, and look at none. -/
def makerOp (o : Oper) : Bool :=
  o.guard.isNone && match o.op with
  | .move _ | .assign _ | .box _ _ | .makeMap _ none | .makeSlice _ _ _ => true
  | _ => false

def isMakeKind (P : Program) (cfg : Cfg) (o : Oper) : Bool :=
  match o.op with
  | .pick _ _ _ => false
  | _ => match kindOf P cfg o with
    | .make _ => true
    | _ => false

/-- A maker that may be taken first. -/
def makeFirst (P : Program) (cfg : Cfg) (ops : Array Oper) (listed : Array Bool) (pend : List Pend) (i : Nat) : Bool :=
  match ops[i]? with
  | some o => isMakeKind P cfg o && makerOp o && Region.free .any ops listed i && pend.all (fun p => reach ops ops.size i p.i) &&
    (List.range ops.size).all fun j => j == i || listed.getD j true || reach ops ops.size j i ||
      (match ops[j]? with | some oj => makerOp oj && pend.all (fun p => reach ops ops.size j p.i) | none => true)
  | none => false

def bothAll : List Tree → Tree
  | [] => .fail
  | [t] => t
  | t :: l => .both t (bothAll l)

/-- A region whose order is open. -/
def drawFrom (P : Program) (cfg : Cfg) (ops : Array Oper) : Nat → Array Bool → List Pend → Fr → (Fr → Tree) → Tree
  | 0, listed, _, fr, K => if Region.ready .any ops listed = [] then K fr else .fail
  | f + 1, listed, pend, fr, K =>
    let rs := Region.ready .any ops listed
    if rs = [] then K fr else
    match findReady P cfg ops listed 0 rs with
    | some i => match ops[i]? with
      | some o => oneOp P cfg ops o fr fun fr' => drawFrom P cfg ops f (listed.setIfInBounds i true) pend fr' K
      | none => .fail
    | none =>
      match findReady P cfg ops listed 1 rs with
      | some i => match ops[i]? with
        | some o => oneOp P cfg ops o fr fun fr' =>
          match wantedAs ops o fr' with
          | some true => match o.dst with
            | some d => match fr'.get d with
              | some v =>
                if !(o.looksAt ops).contains d && o.op.operands.all (fun x => (fr'.eval x).isSome) then
                  drawFrom P cfg ops f (listed.setIfInBounds i true) (⟨i, nf P (execOp fr'.ev o), v⟩ :: pend) fr' K
                else .fail
              | none => .fail
            | none => .fail
          | some false =>
            if dstFree ops o then drawFrom P cfg ops f (listed.setIfInBounds i true) pend fr' K else .fail
          | none => .fail
        | none => .fail
      | none => match rs.find? (makeFirst P cfg ops listed pend) with
      | some i => match ops[i]? with
        | some o => goOp P cfg o fr fun fr' => drawFrom P cfg ops f (listed.setIfInBounds i true) [] fr' K
        | none => .fail
      | none => bothAll (rs.map fun i => match ops[i]? with
        | some o => oneOp P cfg ops o fr fun fr' => checks (Pend.after ops i pend) (drawFrom P cfg ops f (listed.setIfInBounds i true) (Pend.after ops i pend) fr' K)
        | none => .fail)

def drawTree (P : Program) (cfg : Cfg) (ops : Array Oper) (fr : Fr) (K : Fr → Tree) : Tree :=
  if P.follows .mixedOrders && Region.noSelect ops then drawFrom P cfg ops ops.size (Array.replicate ops.size false) [] fr K else .fail

def codeTree (P : Program) (cfg : Cfg) : Nat → Code → Fr → (Ex → Fr → Tree) → Tree
  | 0, _, _, _ => .fail
  | f + 1, c, fr, K =>
    match c with
    | .skip | .label _ => K .normal fr
    | .region _ ops draw => bif draw then drawTree P cfg ops fr (K .normal) else opsTree P cfg ops ops.toList fr (K .normal)
    | .seq a b => codeTree P cfg f a fr fun e fr' => match e with
      | .normal => codeTree P cfg f b fr' K
      | e => K e fr'
    | .cond c a b => match fr.eval c with
      | some (.bool t) => bif t then codeTree P cfg f a fr K else codeTree P cfg f b fr K
      | _ => .fail
    | .block id c => codeTree P cfg f c fr fun e fr' => match e with
      | .exit i => if i = id then K .normal fr' else K (.exit i) fr'
      | e => K e fr'
    | .loop c =>
      if (names c).contains (loopName c) then .fail else
      match fr.getAll (slotsOf fr (writes c)) with
      | none => .fail
      | some vs => .loop (loopName c) (vs.map shOf) vs fun x =>
          codeTree P cfg f c (Fr.setAll (fr.forget (writes c)) (slotsOf fr (writes c)) (toVals (vs.map shOf) x)) fun e fr' => match e with
            | .normal => match fr'.getAll (slotsOf fr (writes c)) with
              | some vs' => .again (loopName c) vs'
              | none => .fail
            | e => K e fr'
    | .scope c => inScopeTree (codeTree P cfg f) c 20 c fr K
    | .exit id => K (.exit id) fr
    | .goto l => K (.goto l) fr
    | .ret => K .ret fr
    | _ => .fail

def Fr.arr (fr : Fr) (n : Nat) : Array Value := ((List.range n).map fun i => (fr.get i).getD undef).toArray

def resSlot : ResultVar → Nat
  | .tmp t => t
  | .cell a _ => a

def resMost (fn : Func) : Nat := (fn.results.toList.map resSlot).sum + 1

def resSem (fn : Func) (tmps : Array Value) : Sem Next := do pure (.value (← results fn tmps))

def shOfResults (P : Program) (ts : List TypeId) : Sh :=
  match ts with
  | [] => .unit
  | [t] => .one (shOfType P t)
  | ts => .tup (ts.map (shOfType P))

def endTree (P : Program) (fn : Func) (e : Ex) (fr : Fr) : Tree :=
  match e with
  | .normal | .ret =>
    if fn.results.all (fun r => (fr.get (resSlot r)).isSome) then
      match pureRun P (resSem fn (fr.arr (resMost fn))) with
      | some v => .ret v
      | none => .look (nf P (resSem fn (fr.arr (resMost fn)))) (shOfResults P fn.resultTypes.toList) fun x => .ret ((shOfResults P fn.resultTypes.toList).toVal x)
    else .fail
  | _ => .fail

/-- The tree of a function at its arguments. -/
def funcTree (P : Program) (cfg : Cfg) (fn : Func) (args : List Value) : Tree :=
  match fn.body with
  | some c => codeTree P cfg 400 c (Fr.setAll (Fr.mkF 24 (args.length + (fn.ntmps - args.length))) (List.range args.length) args) (endTree P fn)
  | none => .fail

end Go.Fw

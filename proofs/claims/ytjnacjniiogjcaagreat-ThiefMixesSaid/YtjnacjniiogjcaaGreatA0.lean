/- Texts of this claim, one behind the other. -/
import Derived.Tactics
import Derived.Deep.Quiet
import Derived.Scope
import Derived.Below
set_option linter.unusedSimpArgs false
set_option linter.unusedVariables false
/- A view of memory: some blocks by number, each as it is. What an operation's meaning does, said of such a view. -/
namespace Go.Fw
open Go
/-- Some of the blocks. -/
abbrev Heap := Nat → Option Obj
/-- The world holds these blocks; since w0 nothing outside of memory has turned, and no new block is frozen. -/
structure dF (w0 w : World) (H : Heap) : Prop where
  blk : ∀ b o, H b = some o → w.heap[b]? = some o
  os : w.os = w0.os
  output : w.output = w0.output
  size : w0.heap.size ≤ w.heap.size
  soft : ∀ a : Addr, w0.heap.size ≤ a.block → w.frozen? a = false
  tape : w.tape = w0.tape
def Heap.set (H : Heap) (b : Nat) (o : Obj) : Heap := fun c => if c = b then some o else H c
def Heap.le (H K : Heap) : Prop := ∀ b o, H b = some o → K b = some o
def Heap.cell? (H : Heap) (a : Addr) : Option Value :=
  match H a.block with
  | some (.cells c _ _) => if a.spot.isSome then none else c[a.off]?
  | _ => none
def Heap.frozen? (H : Heap) (a : Addr) : Bool :=
  match H a.block with
  | some (.cells _ _ (lo, hi)) => lo ≤ a.off && a.off < hi
  | _ => false
def Heap.shape? (H : Heap) (r : Nat) : Option (TypeId × Nat) :=
  match H r with
  | some (.cells c elem _) => some (elem, c.size)
  | _ => none
def Obj.put (a : Addr) (v : Value) : Obj → Obj
  | .cells c elem frozen => .cells (if a.spot.isSome then c else c.setIfInBounds a.off v) elem frozen
  | o => o
def Heap.setCell (H : Heap) (a : Addr) (v : Value) : Heap := fun c => if c = a.block then (H c).map (Obj.put a v) else H c
def Obj.nB : Obj → Bool
  | .cells .. => true
  | _ => false
def Obj.plain : Obj → Bool
  | .cells _ _ fr => fr.1 == 0 && fr.2 == 0
  | _ => true
def Value.single : Value → Bool
  | .agg _ | .tuple _ => false
  | _ => true
/-- What a meaning does to a view: wherever it goes, it ends, and Q. -/
def fu (P : Program) {α : Type} : Sem α → Heap → (α → Heap → Prop) → Prop
  | .pure a, H, Q => Q a H
  | .load _ a k, H, Q => ∃ v, H.cell? a = some v ∧ fu P (k v) H Q
  | .store _ a v k, H, Q => Value.single v = true ∧ (∃ u, H.cell? a = some u) ∧ H.frozen? a = false ∧ fu P k (H.setCell a v) Q
  | .new o k, H, Q => Obj.plain o = true ∧ ∀ b, H b = none → fu P (k b) (H.set b o) Q
  | .shape r k, H, Q => (∃ o, H r = some o) ∧ fu P (k (H.shape? r)) H Q
  | .freeze _ _ _, _, _ => False
  | .frozen a k, H, Q => (∃ o, H a.block = some o) ∧ fu P (k (H.frozen? a)) H Q
  | .getObj r k, H, Q => ∃ o, H r = some o ∧ Obj.nB o = false ∧ fu P (k o) H Q
  | .setObj r o k, H, Q => (∃ o', H r = some o' ∧ Obj.nB o' = false) ∧ Obj.nB o = false ∧ fu P k (H.set r o) Q
  | .choose q k, H, Q => (q.forced = true → fu P (k 0) H Q) ∧ (q.forced = false → ∀ t, fu P (k (q.cut t)) H Q)
  | .sys _ _, _, _ => False
  | .program k, H, Q => fu P (k P) H Q
  | .mark _ k, H, Q => fu P k H Q
  | .halt _, _, _ => False
/-- What a meaning that only looks comes to. -/
def cq (P : Program) {α : Type} : Sem α → Heap → (α → Prop) → Prop
  | .pure a, _, Q => Q a
  | .load _ a k, H, Q => ∃ v, H.cell? a = some v ∧ cq P (k v) H Q
  | .shape r k, H, Q => (∃ o, H r = some o) ∧ cq P (k (H.shape? r)) H Q
  | .frozen a k, H, Q => (∃ o, H a.block = some o) ∧ cq P (k (H.frozen? a)) H Q
  | .getObj r k, H, Q => ∃ o, H r = some o ∧ Obj.nB o = false ∧ cq P (k o) H Q
  | .program k, H, Q => cq P (k P) H Q
  | .mark _ k, H, Q => cq P k H Q
  | _, _, _ => False
theorem dF.cell {w0 w : World} {H : Heap} (h : dF w0 w H) {a : Addr} {v : Value} (hc : H.cell? a = some v) : w.cell? a = some v := by
  unfold Heap.cell? at hc
  unfold World.cell?
  split at hc
  · rename_i c t f he; rw [h.blk _ _ he]; exact hc
  · cases hc
theorem dF.frozen {w0 w : World} {H : Heap} (h : dF w0 w H) {a : Addr} {o : Obj} (ho : H a.block = some o) : w.frozen? a = H.frozen? a := by
  unfold Heap.frozen? World.frozen?
  rw [ho, h.blk _ _ ho]
  rfl
theorem dF.shape {w0 w : World} {H : Heap} (h : dF w0 w H) {r : Nat} {o : Obj} (ho : H r = some o) : w.shape? r = H.shape? r := by
  unfold Heap.shape? World.shape?
  rw [ho, h.blk _ _ ho]
  rfl
theorem zP (w : World) (a : Addr) (v : Value) (c : Addr) : (w.setCell a v).frozen? c = w.frozen? c := by
  unfold World.frozen? World.setCell
  simp only [Array.getElem?_modify]
  by_cases hb : a.block = c.block
  · rw [if_pos hb]
    cases w.heap[c.block]? with
    | none => rfl
    | some o => cases o <;> rfl
  · rw [if_neg hb]
theorem dF.setCell {w0 w : World} {H : Heap} (h : dF w0 w H) (a : Addr) (v : Value) : dF w0 (w.setCell a v) (H.setCell a v) := by
  refine ⟨?_, h.os, h.output, by simp only [World.setCell, Array.size_modify]; exact h.size, fun c hc => by rw [zP]; exact h.soft c hc, h.tape⟩
  intro b o ho
  unfold Heap.setCell at ho
  unfold World.setCell
  simp only [Array.getElem?_modify]
  by_cases hb : b = a.block
  · rw [if_pos hb] at ho
    rw [if_pos hb.symm]
    cases hH : H b with
    | none => rw [hH] at ho; cases ho
    | some o' =>
      rw [hH] at ho
      rw [h.blk _ _ hH]
      simp only [Option.map_some, Option.some.injEq] at ho ⊢
      rw [← ho]
      cases o' <;> rfl
  · rw [if_neg hb] at ho
    rw [if_neg (fun e => hb e.symm)]
    exact h.blk _ _ ho
theorem dF.new {w0 w : World} {H : Heap} (h : dF w0 w H) {o : Obj} (hp : Obj.plain o = true) : H w.heap.size = none ∧ dF w0 { w with heap := w.heap.push o } (H.set w.heap.size o) := by
  constructor
  · cases hH : H w.heap.size with
    | none => rfl
    | some o' => have := h.blk _ _ hH; simp at this
  · refine ⟨?_, h.os, h.output, by simp only [Array.size_push]; have := h.size; omega, ?_, h.tape⟩
    · intro b o' ho
      unfold Heap.set at ho
      simp only [Array.getElem?_push]
      split at ho
      · rename_i e; subst e; simpa using ho
      · rename_i e
        have := h.blk _ _ ho
        simpa [e] using this
    · intro a ha
      have hs := h.soft a ha
      unfold World.frozen? at hs ⊢
      simp only [Array.getElem?_push]
      split
      · rename_i c t lo hi he
        split at he
        · rename_i e
          simp only [Option.some.injEq] at he
          subst he
          simp only [Obj.plain, Bool.and_eq_true, beq_iff_eq] at hp
          rw [hp.1, hp.2]; simp
        · rename_i e
          rw [he] at hs; exact hs
      · rfl
theorem dF.setObj {w0 w : World} {H : Heap} (h : dF w0 w H) {r : Nat} {o' : Obj} (hr : H r = some o') {o : Obj} (hn : Obj.nB o = false) : dF w0 { w with heap := w.heap.setIfInBounds r o } (H.set r o) := by
  refine ⟨?_, h.os, h.output, by simp only [Array.size_setIfInBounds]; exact h.size, ?_, h.tape⟩
  · intro b o'' ho
    unfold Heap.set at ho
    simp only [Array.getElem?_setIfInBounds]
    have hlt := (Array.getElem?_eq_some_iff.1 (h.blk _ _ hr)).1
    split at ho
    · rename_i e; subst e; simpa [hlt] using ho
    · rename_i e
      rw [if_neg (fun e' => e e'.symm)]
      exact h.blk _ _ ho
  · intro a ha
    have hs := h.soft a ha
    unfold World.frozen? at hs ⊢
    simp only [Array.getElem?_setIfInBounds]
    split
    · rename_i c t lo hi he
      split at he
      · split at he
        · simp only [Option.some.injEq] at he; subst he; simp [Obj.nB] at hn
        · cases he
      · rw [he] at hs; exact hs
    · rfl
theorem dF.drawn {w0 w : World} {H : Heap} (h : dF w0 w H) (n : Nat) : dF w0 { w with drawn := n } H := ⟨h.blk, h.os, h.output, h.size, h.soft, h.tape⟩
theorem dF.le {w0 w : World} {H K : Heap} (h : dF w0 w K) (hl : H.le K) : dF w0 w H := ⟨fun b o ho => h.blk b o (hl b o ho), h.os, h.output, h.size, h.soft, h.tape⟩
theorem Fk (P : Program) {w0 : World} {α : Type} (s : Sem α) : ∀ (H : Heap) (Q : α → Heap → Prop) (w : World), dF w0 w H → fu P s H Q →
    ∃ a w' H', s.run P w = .ok a w' ∧ dF w0 w' H' ∧ Q a H' := by
  induction s with
  | pure a => intro H Q w hw h; exact ⟨a, w, H, rfl, hw, h⟩
  | load m a k ih =>
    intro H Q w hw h
    obtain ⟨v, hc, h⟩ := h
    obtain ⟨x, w', H', hr, hh, hq⟩ := ih v H Q w hw h
    exact ⟨x, w', H', by simp only [Sem.run, hw.cell hc]; exact hr, hh, hq⟩
  | store m a v k ih =>
    intro H Q w hw h
    obtain ⟨hs, ⟨u, hc⟩, hf, h⟩ := h
    obtain ⟨x, w', H', hr, hh, hq⟩ := ih _ Q _ (hw.setCell a v) h
    refine ⟨x, w', H', ?_, hh, hq⟩
    have hfz : w.frozen? a = false := by
      unfold Heap.cell? at hc
      split at hc
      · rename_i c t f he; rw [hw.frozen he]; exact hf
      · cases hc
    cases v <;> first | (simp only [Value.single] at hs; cases hs; done) | (simp only [Sem.run, hw.cell hc, hfz, Bool.false_eq_true, if_false]; exact hr)
  | new o k ih =>
    intro H Q w hw h
    obtain ⟨h0, h1⟩ := hw.new h.1
    obtain ⟨x, w', H', hr, hh, hq⟩ := ih _ _ Q _ h1 (h.2 _ h0)
    exact ⟨x, w', H', hr, hh, hq⟩
  | shape r k ih =>
    intro H Q w hw h
    obtain ⟨⟨o, ho⟩, h⟩ := h
    obtain ⟨x, w', H', hr, hh, hq⟩ := ih _ _ Q _ hw h
    exact ⟨x, w', H', by simp only [Sem.run, hw.shape ho]; exact hr, hh, hq⟩
  | freeze a n k ih => intro H Q w hw h; exact h.elim
  | frozen a k ih =>
    intro H Q w hw h
    obtain ⟨⟨o, ho⟩, h⟩ := h
    obtain ⟨x, w', H', hr, hh, hq⟩ := ih _ _ Q _ hw h
    exact ⟨x, w', H', by simp only [Sem.run, hw.frozen ho]; exact hr, hh, hq⟩
  | getObj r k ih =>
    intro H Q w hw h
    obtain ⟨o, ho, hn, h⟩ := h
    obtain ⟨x, w', H', hr, hh, hq⟩ := ih _ _ Q _ hw h
    refine ⟨x, w', H', ?_, hh, hq⟩
    simp only [Sem.run, hw.blk _ _ ho]
    cases o <;> first | (simp only [Obj.nB] at hn; cases hn; done) | exact hr
  | setObj r o k ih =>
    intro H Q w hw h
    obtain ⟨⟨o', ho, hn⟩, hn2, h⟩ := h
    obtain ⟨x, w', H', hr, hh, hq⟩ := ih _ Q _ (hw.setObj ho hn2) h
    refine ⟨x, w', H', ?_, hh, hq⟩
    simp only [Sem.run, hw.blk _ _ ho]
    cases o' <;> first | (simp only [Obj.nB] at hn; cases hn; done) | exact hr
  | choose q k ih =>
    intro H Q w hw h
    cases hq : q.forced with
    | true =>
      obtain ⟨x, w', H', hr, hh, hq'⟩ := ih _ _ Q _ hw (h.1 hq)
      exact ⟨x, w', H', by simp only [Sem.run, hq, if_true]; exact hr, hh, hq'⟩
    | false =>
      obtain ⟨x, w', H', hr, hh, hq'⟩ := ih _ _ Q _ (hw.drawn _) (h.2 hq (w.tape w.drawn q))
      exact ⟨x, w', H', by simp only [Sem.run, hq, Bool.false_eq_true, if_false]; exact hr, hh, hq'⟩
  | sys c k ih => intro H Q w hw h; exact h.elim
  | program k ih => intro H Q w hw h; exact ih P H Q w hw h
  | mark m k ih => intro H Q w hw h; exact ih H Q w hw h
  | halt x => intro H Q w hw h; exact h.elim
theorem BG (P : Program) {α : Type} (s : Sem α) : ∀ (H : Heap) (Q : α → Prop), cq P s H Q →
    ∃ a, Q a ∧ ∀ w0 w, dF w0 w H → s.run P w = .ok a w := by
  induction s with
  | pure a => intro H Q h; exact ⟨a, h, fun _ w _ => rfl⟩
  | load m a k ih =>
    intro H Q h
    obtain ⟨v, hc, h⟩ := h
    obtain ⟨x, hq, hr⟩ := ih v H Q h
    exact ⟨x, hq, fun w0 w hw => by simp only [Sem.run, hw.cell hc]; exact hr w0 w hw⟩
  | shape r k ih =>
    intro H Q h
    obtain ⟨⟨o, ho⟩, h⟩ := h
    obtain ⟨x, hq, hr⟩ := ih _ H Q h
    exact ⟨x, hq, fun w0 w hw => by simp only [Sem.run, hw.shape ho]; exact hr w0 w hw⟩
  | frozen a k ih =>
    intro H Q h
    obtain ⟨⟨o, ho⟩, h⟩ := h
    obtain ⟨x, hq, hr⟩ := ih _ H Q h
    exact ⟨x, hq, fun w0 w hw => by simp only [Sem.run, hw.frozen ho]; exact hr w0 w hw⟩
  | getObj r k ih =>
    intro H Q h
    obtain ⟨o, ho, hn, h⟩ := h
    obtain ⟨x, hq, hr⟩ := ih _ H Q h
    refine ⟨x, hq, fun w0 w hw => ?_⟩
    simp only [Sem.run, hw.blk _ _ ho]
    cases o <;> first | (simp only [Obj.nB] at hn; cases hn; done) | exact hr w0 w hw
  | program k ih => intro H Q h; exact ih P H Q h
  | mark m k ih =>
    intro H Q h
    obtain ⟨x, hq, hr⟩ := ih H Q h
    exact ⟨x, hq, fun w0 w hw => hr w0 w hw⟩
  | _ => intro H Q h; exact h.elim
/-- The same meaning, with the program looked up. -/
def nf (P : Program) {α : Type} : Sem α → Sem α
  | .pure a => .pure a
  | .load m a k => .load m a fun v => nf P (k v)
  | .store m a v k => .store m a v (nf P k)
  | .new o k => .new o fun b => nf P (k b)
  | .shape r k => .shape r fun s => nf P (k s)
  | .freeze a n k => .freeze a n (nf P k)
  | .frozen a k => .frozen a fun b => nf P (k b)
  | .getObj r k => .getObj r fun o => nf P (k o)
  | .setObj r o k => .setObj r o (nf P k)
  | .choose q k => .choose q fun n => nf P (k n)
  | .sys c k => .sys c fun r => nf P (k r)
  | .program k => nf P (k P)
  | .mark _ k => nf P k
  | .halt h => .halt h
theorem MV (P : Program) {α : Type} (s : Sem α) : ∀ w, (nf P s).run P w = s.run P w := by
  induction s with
  | pure a => intro w; rfl
  | load m a k ih => intro w; simp only [nf, Sem.run, ih]
  | store m a v k ih => intro w; cases v <;> simp only [nf, Sem.run, ih]
  | new o k ih => intro w; simp only [nf, Sem.run, ih]
  | shape r k ih => intro w; simp only [nf, Sem.run, ih]
  | freeze a n k ih => intro w; simp only [nf, Sem.run, ih]
  | frozen a k ih => intro w; simp only [nf, Sem.run, ih]
  | getObj r k ih => intro w; simp only [nf, Sem.run, ih]
  | setObj r o k ih => intro w; simp only [nf, Sem.run, ih]
  | choose q k ih => intro w; simp only [nf, Sem.run, ih]
  | sys c k ih => intro w; simp only [nf, Sem.run, ih]
  | program k ih => intro w; simp only [nf, Sem.run, ih]
  | mark m k ih => intro w; simp only [nf, Sem.run, ih]
  | halt x => intro w; rfl
/-- The value of a meaning that neither looks nor turns anything. -/
def pureRun (P : Program) : Sem Next → Option Value
  | .pure (.value v) => some v
  | .program k => pureRun P (k P)
  | .mark _ k => pureRun P k
  | _ => none
theorem AU (P : Program) (s : Sem Next) : ∀ v, pureRun P s = some v → ∀ w, s.run P w = .ok (.value v) w := by
  induction s with
  | pure a =>
    intro v h w
    cases a <;> simp only [pureRun] at h <;> first | (cases h; done) | (cases h; rfl)
  | program k ih => intro v h w; exact ih P v h w
  | mark m k ih => intro v h w; exact ih v h w
  | _ => intro v h; simp only [pureRun] at h; cases h
end Go.Fw
/- Go code as a tree of what it does to memory; what a tree does; that the code does what its tree does. -/
namespace Go.Fw
open Go
inductive iH where
  | int (k : IntKind) | bool | ptr | addr | slice | map | fnc | ifc | val
structure Sl where
  a : Option Addr
  len : Nat
  cap : Nat
structure Fnv where
  fn : Fn
  first : Array Value
  cap : Array Value
structure Ifv where
  t : TypeId
  v : Value
@[reducible] def iH.T : iH → Type
  | .int _ => Int
  | .bool => Bool
  | .ptr => Option Addr
  | .addr => Addr
  | .slice => Sl
  | .map => Option Nat
  | .fnc => Fnv
  | .ifc => Ifv
  | .val => Value
@[reducible] def iH.fq : (l : iH) → l.T → Value
  | .int k, n => .int k n
  | .bool, b => .bool b
  | .ptr, p => .pointer p
  | .addr, a => .pointer (some a)
  | .slice, s => .slice s.a s.len s.cap
  | .map, r => .map r
  | .fnc, x => .func x.fn x.first x.cap
  | .ifc, x => .iface x.t x.v
  | .val, v => v
@[reducible] def HL {α : Type} (f : α → Type) : List α → Type
  | [] => Unit
  | a :: l => f a × HL f l
@[reducible] def HL.gN {α β : Type} {f : α → Type} (g : (a : α) → f a → β) : (l : List α) → HL f l → List β
  | [], _ => []
  | a :: l, x => g a x.1 :: HL.gN g l x.2
inductive Sh1 where
  | leaf (l : iH) | agg (ls : List iH)
@[reducible] def Sh1.T : Sh1 → Type
  | .leaf l => l.T
  | .agg ls => HL iH.T ls
@[reducible] def Sh1.fq : (s : Sh1) → s.T → Value
  | .leaf l, x => l.fq x
  | .agg ls, x => .agg (HL.gN iH.fq ls x).toArray
inductive Sh where
  | one (s : Sh1) | tup (ss : List Sh1) | unit
@[reducible] def Sh.T : Sh → Type
  | .one s => s.T
  | .tup ss => HL Sh1.T ss
  | .unit => Unit
@[reducible] def Sh.fq : (s : Sh) → s.T → Value
  | .one s, x => s.fq x
  | .tup ss, x => .tuple (HL.gN Sh1.fq ss x).toArray
  | .unit, _ => undef
@[reducible] def tX (shs : List Sh1) (x : HL Sh1.T shs) : List Value := HL.gN Sh1.fq shs x
inductive Tree : Type where
  | ret (v : Value)
  | look (s : Sem Next) (sh : Sh) (k : sh.T → Tree)
  | act (s : Sem Next) (sh : Sh) (k : sh.T → Tree)
  | loop (n : Nat) (shs : List Sh1) (init : List Value) (body : HL Sh1.T shs → Tree)
  | again (n : Nat) (gN : List Value)
  | both (t u : Tree)
  | check (s : Sem Next) (v : Value) (t : Tree)
  | make (s : Sem Next) (sh : Sh) (k : sh.T → Tree)
  | fail
/-- A call of function f, at whatever world that holds the view, ends by returning, and R. -/
def cB (P : Program) (f : FuncId) (args : Array Value) (H : Heap) (R : Value → Heap → Prop) : Prop :=
  ∀ w0 w, dF w0 w H → Calls P f args w fun e w' => ∃ v H', e = .returned v ∧ dF w0 w' H' ∧ R v H'
def nextW (P : Program) (n : Next) (H : Heap) (R : Value → Heap → Prop) : Prop :=
  match n with
  | .value v => R v H
  | .skip => R undef H
  | .enter f args => cB P f args H R
  | _ => False
def nextL (P : Program) (n : Next) (H : Heap) (v : Value) : Prop :=
  match n with
  | .value u => u = v
  | .enter f args => cB P f args H fun u H' => u = v ∧ H.le H'
  | _ => False
/-- A meaning that makes one new block, and nothing else: which one; its value. -/
def amade (P : Program) : Sem Next → Value → Prop
  | .pure (.value u), v => u = v
  | .program k, v => amade P (k P) v
  | .mark _ k, v => amade P k v
  | _, _ => False
def amake (P : Program) : Sem Next → Obj → (Nat → Value) → Prop
  | .new o' k, o, val => (o' = o ∧ Obj.plain o = true) ∧ ∀ b, amade P (k b) (val b)
  | .program k, o, val => amake P (k P) o val
  | .mark _ k, o, val => amake P k o val
  | _, _, _ => False
abbrev aZ := Nat → List Value → Heap → Prop
def aZ.set (L : aZ) (n : Nat) (C : List Value → Heap → Prop) : aZ := fun m => if m = n then C else L m
def wp (P : Program) : Tree → aZ → Heap → (Value → Heap → Prop) → Prop
  | .ret v, _, H, R => ∃ H' : Heap, H'.le H ∧ R v H'
  | .look s sh k, L, H, R => ∃ x, cq P s H (fun n => nextL P n H (sh.fq x)) ∧ wp P (k x) L H R
  | .act s sh k, L, H, R => fu P s H fun n H' => nextW P n H' fun v H'' => ∃ x, v = sh.fq x ∧ wp P (k x) L H'' R
  | .loop n shs init body, L, H, R => ∃ x0, init = tX shs x0 ∧ ∀ C : HL Sh1.T shs → Heap → Prop,
      (∀ x H', wp P (body x) (L.set n fun gN H'' => ∃ x', gN = tX shs x' ∧ C x' H'') H' R → C x H') → C x0 H
  | .again n gN, L, H, _ => L n gN H
  | .both t u, L, H, R => wp P t L H R ∧ wp P u L H R
  | .check s v t, L, H, R => cq P s H (fun n => nextL P n H v) ∧ wp P t L H R
  | .make s sh k, L, H, R => ∃ o val, amake P s o val ∧ ∀ b, H b = none → ∃ x, val b = sh.fq x ∧ wp P (k x) L (H.set b o) R
  | .fail, _, _, _ => False
theorem cB.mono {P : Program} {f : FuncId} {args : Array Value} {H : Heap} {R R' : Value → Heap → Prop} (h : cB P f args H R)
    (hr : ∀ v H', R v H' → R' v H') : cB P f args H R' :=
  fun w0 w hw => (h w0 w hw).mono fun _ _ ⟨v, H', he, hh, hR⟩ => ⟨v, H', he, hh, hr _ _ hR⟩
theorem cB.less {P : Program} {f : FuncId} {args : Array Value} {H : Heap} {R R' : Value → Heap → Prop} (h : cB P f args H R)
    (hr : ∀ v H', R v H' → ∃ H2 : Heap, H2.le H' ∧ R' v H2) : cB P f args H R' :=
  fun w0 w hw => (h w0 w hw).mono fun _ _ ⟨v, _, he, hh, hR⟩ => let ⟨H2, hl, h2⟩ := hr _ _ hR; ⟨v, H2, he, hh.le hl, h2⟩
theorem oJ {P : Program} {n : Next} {H : Heap} {R R' : Value → Heap → Prop} (h : nextW P n H R) (hr : ∀ v H', R v H' → R' v H') : nextW P n H R' := by
  cases n <;> simp only [nextW] at * <;> first | exact hr _ _ h | exact h.mono hr | exact h
theorem iY {P : Program} {α : Type} (s : Sem α) : ∀ {H : Heap} {Q Q' : α → Heap → Prop}, fu P s H Q → (∀ a H', Q a H' → Q' a H') → fu P s H Q' := by
  induction s with
  | pure a => intro H Q Q' h hq; exact hq _ _ h
  | load m a k ih => intro H Q Q' h hq; obtain ⟨v, hc, h⟩ := h; exact ⟨v, hc, ih v h hq⟩
  | store m a v k ih => intro H Q Q' h hq; exact ⟨h.1, h.2.1, h.2.2.1, ih h.2.2.2 hq⟩
  | new o k ih => intro H Q Q' h hq; exact ⟨h.1, fun b hb => ih b (h.2 b hb) hq⟩
  | shape r k ih => intro H Q Q' h hq; exact ⟨h.1, ih _ h.2 hq⟩
  | frozen a k ih => intro H Q Q' h hq; exact ⟨h.1, ih _ h.2 hq⟩
  | getObj r k ih => intro H Q Q' h hq; obtain ⟨o, h1, h2, h3⟩ := h; exact ⟨o, h1, h2, ih _ h3 hq⟩
  | setObj r o k ih => intro H Q Q' h hq; exact ⟨h.1, h.2.1, ih h.2.2 hq⟩
  | choose q k ih => intro H Q Q' h hq; exact ⟨fun e => ih _ (h.1 e) hq, fun e t => ih _ (h.2 e t) hq⟩
  | program k ih => intro H Q Q' h hq; exact ih P h hq
  | mark m k ih => intro H Q Q' h hq; exact ih h hq
  | _ => intro H Q Q' h; exact h.elim
theorem wp_mono {P : Program} (t : Tree) : ∀ {L L' : aZ} {H : Heap} {R R' : Value → Heap → Prop}, wp P t L H R → (∀ n gN H', L n gN H' → L' n gN H') →
    (∀ v H', R v H' → R' v H') → wp P t L' H R' := by
  induction t with
  | ret v => intro L L' H R R' h _ hr; obtain ⟨H', h1, h2⟩ := h; exact ⟨H', h1, hr _ _ h2⟩
  | look s sh k ih => intro L L' H R R' h hl hr; obtain ⟨x, h1, h2⟩ := h; exact ⟨x, h1, ih x h2 hl hr⟩
  | act s sh k ih =>
    intro L L' H R R' h hl hr
    exact iY s h fun _ _ h' => oJ h' fun _ _ ⟨x, hx, h2⟩ => ⟨x, hx, ih x h2 hl hr⟩
  | loop n shs init body ih =>
    intro L L' H R R' h hl hr
    obtain ⟨x0, h0, h⟩ := h
    refine ⟨x0, h0, fun C hC => h C fun x H' hx => hC x H' (ih x hx (fun m gN H'' hm => ?_) hr)⟩
    unfold aZ.set at *
    split at hm
    · rename_i e; rw [if_pos e]; exact hm
    · rename_i e; rw [if_neg e]; exact hl _ _ _ hm
  | again n gN => intro L L' H R R' h hl _; exact hl _ _ _ h
  | both t u iht ihu => intro L L' H R R' h hl hr; exact ⟨iht h.1 hl hr, ihu h.2 hl hr⟩
  | check s v t ih => intro L L' H R R' h hl hr; exact ⟨h.1, ih h.2 hl hr⟩
  | make s sh k ih =>
    intro L L' H R R' h hl hr
    obtain ⟨o, val, hm, h⟩ := h
    exact ⟨o, val, hm, fun b hb => let ⟨x, hx, h⟩ := h b hb; ⟨x, hx, ih x h hl hr⟩⟩
  | fail => intro L L' H R R' h; exact h.elim
/-! ### Code as a tree -/
/-- Slots by number: odd ones to the left, even ones to the right. -/
inductive Fr where
  | leaf
  | node (l : Fr) (x : Option Value) (r : Fr)
def Fr.get : Fr → Nat → Option Value
  | .leaf, _ => none
  | .node l x r, t => bif Nat.beq t 0 then x else bif Nat.beq (t % 2) 1 then l.get (t / 2) else r.get (t / 2 - 1)
def Fr.upd : Fr → Nat → Option Value → Fr
  | .leaf, _, _ => .leaf
  | .node l x r, t, v => bif Nat.beq t 0 then .node l v r else bif Nat.beq (t % 2) 1 then .node (l.upd (t / 2) v) x r else .node l x (r.upd (t / 2 - 1) v)
def Fr.mkF : Nat → Nat → Fr
  | 0, _ => .leaf
  | d + 1, n => bif Nat.beq n 0 then .leaf else .node (Fr.mkF d (n / 2)) none (Fr.mkF d ((n - 1) / 2))
def Fr.put (fr : Fr) (d : Option Tmp) (v : Value) : Fr :=
  match d with
  | none => fr
  | some d => fr.upd d (some v)
def Fr.eval (fr : Fr) : Operand → Option Value
  | .tmp t => fr.get t
  | .const v => some v
  | .global g => some (.pointer (some ⟨g, 0, none⟩))
  | .func f => some (.func (.func f) #[] #[])
def Fr.ev (fr : Fr) (x : Operand) : Value := (fr.eval x).getD undef
def Jc : Value → iH
  | .int k _ => .int k
  | .bool _ => .bool
  | .pointer _ => .ptr
  | .slice _ _ _ => .slice
  | .map _ => .map
  | .func _ _ _ | .nilFunc => .val
  | .iface _ _ | .nilIface => .val
  | _ => .val
def IV : Value → Sh1
  | .agg cs => .agg (cs.toList.map Jc)
  | v => .leaf (Jc v)
def shOfType (P : Program) (t : TypeId) : Sh1 :=
  match (P.types[t]?).bind (·.zero) with
  | some z => IV z
  | none => .leaf .val
def jr (P : Program) (t : TypeId) : Sh :=
  match ((P.types[t]?).map (·.desc) : Option TypeDesc) with
  | some (TypeDesc.tuple ts) => match ts.toList with
    | [] => .unit
    | ts => .tup (ts.map (shOfType P))
  | _ => .one (shOfType P t)
structure Cfg where
  quiet : List FuncId := []
  quietTmp : Bool := false
  fncs : List Nat := []
  ifcs : List Nat := []
inductive Kind where
  | pure | look (sh : Sh) | act (sh : Sh) | make (sh : Sh)
def isInt (P : Program) (t : TypeId) : Bool :=
  match shOfType P t with
  | .leaf (.int _) | .leaf .bool => true
  | _ => false
def FF (P : Program) (t : TypeId) : Bool :=
  match P.underlying t with
  | some (.array _ _) => true
  | _ => false
/-- What a call gives: an interface that is not nil, where cfg says so. -/
def resSh (P : Program) (cfg : Cfg) (o : Oper) : Sh :=
  match o.dst with
  | some d => if cfg.ifcs.contains d then .one (.leaf .ifc) else if cfg.fncs.contains d then .one (.leaf .fnc) else jr P o.type
  | none => jr P o.type
def zM (P : Program) (cfg : Cfg) (o : Oper) : Kind :=
  match o.op with
  | .move _ | .assign _ | .build _ _ | .fieldAddr _ _ _ | .field _ _ _ | .unOp _ _ _ | .convert _ _ _ | .makeInterface _ _ | .makeFunc _ _ _ | .extract _ _ => .pure
  | .binOp op t _ y _ =>
    match op with
    | .quo | .rem => match y with
      | .const _ => .pure
      | _ => .look (.one (shOfType P o.type))
    | .shl | .shr => match y with
      | .const _ => .pure
      | _ => .look (.one (shOfType P o.type))
    | .eql | .neq => if isInt P t then .pure else .look (.one (.leaf .bool))
    | _ => .pure
  | .indexAddr t _ i => match i with
    | .const _ => if FF P t then .pure else .look (.one (.leaf .addr))
    | _ => .look (.one (.leaf .addr))
  | .index t _ i => match i with
    | .const _ => if FF P t then .pure else .look (.one (shOfType P o.type))
    | _ => .look (.one (shOfType P o.type))
  | .nilCheck _ => match o.dst with
    | some d => if cfg.fncs.contains d then .look (.one (.leaf .val)) else if cfg.ifcs.contains d then .look (.one (.leaf .val)) else .look (.one (.leaf .addr))
    | none => .look (.one (.leaf .addr))
  | .load t _ => .look (.one (shOfType P t))
  | .lookup _ _ _ _ => .look (jr P o.type)
  | .slice _ _ _ _ _ => .look (.one (.leaf .slice))
  | .call { callee := .builtin b, .. } =>
    match b with
    | .len | .cap | .min | .max => .pure
    | .append => .act (.one (.leaf .slice))
    | .copy => .act (.one (.leaf (.int .i64)))
    | _ => .act (jr P o.type)
  | .call { callee := .value (.func f), .. } => if cfg.quiet.contains f then .look (resSh P cfg o) else .act (resSh P cfg o)
  | .call { callee := .value _, .. } => if cfg.quietTmp then .look (jr P o.type) else .act (jr P o.type)
  | .call _ => .act (jr P o.type)
  | .alloc _ | .box _ _ => .make (.one (.leaf .addr))
  | .makeMap _ _ => .make (.one (.leaf .map))
  | .makeSlice _ _ _ | .buildSlice _ _ _ => .make (.one (.leaf .slice))
  | .mapEntry t _ _ => match P.underlying t with
    | some (.map _ e) => .act (.tup [shOfType P e, .leaf (.int .i64)])
    | _ => .act .unit
  | .store _ _ _ | .mapUpdate _ _ _ _ | .insert _ _ _ _ | .entryStore _ _ _ _ => .act .unit
  | .typeAssert _ _ t ok => if ok then .look (.tup [shOfType P t, .leaf .bool]) else .look (.one (shOfType P t))
  | _ => .act (jr P o.type)
def Op.isSelect : Op → Bool
  | .select _ _ => true
  | _ => false
def goOp (P : Program) (cfg : Cfg) (o : Oper) (fr : Fr) (K : Fr → Tree) : Tree :=
  match o.op with
  | .pick c a b =>
    match fr.eval c with
    | some (.bool t) => bif t then (match fr.eval a with | some v => K (fr.put o.dst v) | none => .fail) else (match fr.eval b with | some v => K (fr.put o.dst v) | none => .fail)
    | _ => .fail
  | op =>
    if Op.isSelect op then .fail else
    if op.operands.all (fun x => (fr.eval x).isSome) then
      match zM P cfg o with
      | .pure => match pureRun P (execOp fr.ev o) with
        | some v => K (fr.put o.dst v)
        | none => .fail
      | .look sh => .look (nf P (execOp fr.ev o)) sh fun x => K (fr.put o.dst (sh.fq x))
      | .act sh => .act (nf P (execOp fr.ev o)) sh fun x => K (fr.put o.dst (sh.fq x))
      | .make sh => .make (nf P (execOp fr.ev o)) sh fun x => K (fr.put o.dst (sh.fq x))
    else .fail
def oneOp (P : Program) (cfg : Cfg) (ops : Array Oper) (o : Oper) (fr : Fr) (K : Fr → Tree) : Tree :=
  match o.guard with
  | none => goOp P cfg o fr K
  | some (j, want) =>
    match (ops[j]?).bind (·.dst) with
    | none => .fail
    | some t =>
      match fr.get t with
      | some (.bool b) =>
        bif b then (bif want then goOp P cfg o (fr.upd t (some (.bool true))) K else K (Fr.put (fr.upd t (some (.bool true))) o.dst undef))
        else (bif want then K (Fr.put (fr.upd t (some (.bool false))) o.dst undef) else goOp P cfg o (fr.upd t (some (.bool false))) K)
      | some (.tuple _) => K (fr.put o.dst undef)
      | _ => .fail
def Cr (P : Program) (cfg : Cfg) (ops : Array Oper) : List Oper → Fr → (Fr → Tree) → Tree
  | [], fr, K => K fr
  | o :: l, fr, K => oneOp P cfg ops o fr fun fr' => Cr P cfg ops l fr' K
inductive Ex where
  | normal | exit (id : Nat) | goto (l : Nat) | ret
@[reducible] def Ex.xv : Ex → Exit
  | .normal => .normal
  | .exit i => .exit i
  | .goto l => .goto l
  | .ret => .ret
def writes : Code → List Nat
  | .region _ ops _ => ops.toList.filterMap (·.dst)
  | .seq a b | .cond _ a b => writes a ++ writes b
  | .block _ c | .loop c | .scope c => writes c
  | _ => []
def va : Code → Nat
  | .region id _ _ => id
  | .seq a _ | .cond _ a _ => va a
  | .block _ c | .loop c | .scope c => va c
  | _ => 0
def nest : Code → Nat
  | .seq a b | .cond _ a b => max (nest a) (nest b)
  | .block _ c | .scope c => nest c
  | .loop c => nest c + 1
  | _ => 0
def rG (body : Code) : Nat := va body * 64 + nest body
def names : Code → List Nat
  | .seq a b | .cond _ a b => names a ++ names b
  | .block _ c | .scope c => names c
  | .loop c => rG c :: names c
  | _ => []
def Fr.forget (fr : Fr) (W : List Nat) : Fr := W.foldl (fun f i => f.upd i none) fr
def Fr.setAll (fr : Fr) : List Nat → List Value → Fr
  | i :: is, v :: vs => Fr.setAll (fr.upd i (some v)) is vs
  | _, _ => fr
def Fr.getAll (fr : Fr) : List Nat → Option (List Value)
  | [] => some []
  | i :: is => match fr.get i with
    | some v => match Fr.getAll fr is with
      | some vs => some (v :: vs)
      | none => none
    | none => none
def slotsOf (fr : Fr) (W : List Nat) : List Nat := (List.range (W.foldl Nat.max 0 + 1)).filter fun i => W.contains i && (fr.get i).isSome
def inScopeTree (den : Code → Fr → (Ex → Fr → Tree) → Tree) (c : Code) : Nat → Code → Fr → (Ex → Fr → Tree) → Tree
  | 0, _, _, _ => .fail
  | g + 1, code, fr, K => den code fr fun e fr' => match e with
    | .goto l => match findLabel c l with
      | some rest =>
        if (writes rest).all (fun i => (writes c).contains i) && (names rest).all (fun i => (names c).contains i) then inScopeTree den c g rest fr' K else .fail
      | none => .fail
    | e => K e fr'
def behind (ops : Array Oper) (j : Nat) : List Nat :=
  match ops[j]? with
  | some o => (o.after.toList.filter fun e => Region.binds .any e).map (·.on)
  | none => []
def ancs (ops : Array Oper) : Nat → List Nat → List Nat → List Nat
  | 0, _, seen => seen
  | _ + 1, [], seen => seen
  | f + 1, x :: w, seen => bif seen.any (Nat.beq x) then ancs ops f w seen else ancs ops f (behind ops x ++ w) (x :: seen)
/-- Must operation j wait for operation i? -/
def reach (ops : Array Oper) (f j i : Nat) : Bool := (ancs ops (f * f + f) (behind ops j) []).any (Nat.beq i)
structure w5 where
  i : Nat
  s : Sem Next
  v : Value
def EW : List w5 → Tree → Tree
  | [], t => t
  | p :: l, t => .check p.s p.v (EW l t)
def w5.after (ops : Array Oper) (j : Nat) (l : List w5) : List w5 := l.filter fun p => !reach ops ops.size j p.i
/-- 0: neither looks nor turns; 1: looks; 2: all else. -/
def tag (P : Program) (cfg : Cfg) (o : Oper) : Nat :=
  match o.op with
  | .pick _ _ _ => 0
  | _ => match zM P cfg o with
    | .pure => 0
    | .look _ => 1
    | _ => 2
def wZ (ops : Array Oper) (o : Oper) (fr : Fr) : Option Bool :=
  match o.guard with
  | none => some true
  | some (j, want) =>
    match (ops[j]?).bind (·.dst) with
    | none => none
    | some t =>
      match fr.get t with
      | some (.bool b) => some (b == want)
      | some (.tuple _) => some false
      | _ => none
def FY (ops : Array Oper) (o : Oper) : Bool :=
  match o.dst with
  | some d => !(o.looksAt ops).contains d
  | none => true
def lV (P : Program) (cfg : Cfg) (ops : Array Oper) (listed : Array Bool) (k : Nat) : List Nat → Option Nat
  | [] => none
  | i :: l => match ops[i]? with
    | some o => if tag P cfg o == k && Region.free .any ops listed i then some i else lV P cfg ops listed k l
    | none => lV P cfg ops listed k l
/-- Operations that make a block, or nothing, and look at none. -/
def makerOp (o : Oper) : Bool :=
  o.guard.isNone && match o.op with
  | .move _ | .assign _ | .box _ _ | .makeMap _ none | .makeSlice _ _ _ => true
  | _ => false
def isMakeKind (P : Program) (cfg : Cfg) (o : Oper) : Bool :=
  match o.op with
  | .pick _ _ _ => false
  | _ => match zM P cfg o with
    | .make _ => true
    | _ => false
/-- A maker that may be taken first. -/
def Bd (P : Program) (cfg : Cfg) (ops : Array Oper) (listed : Array Bool) (dz : List w5) (i : Nat) : Bool :=
  match ops[i]? with
  | some o => isMakeKind P cfg o && makerOp o && Region.free .any ops listed i && dz.all (fun p => reach ops ops.size i p.i) &&
    (List.range ops.size).all fun j => j == i || listed.getD j true || reach ops ops.size j i ||
      (match ops[j]? with | some oj => makerOp oj && dz.all (fun p => reach ops ops.size j p.i) | none => true)
  | none => false
def Cc : List Tree → Tree
  | [] => .fail
  | [t] => t
  | t :: l => .both t (Cc l)
/-- A region whose order is open. -/
def drawFrom (P : Program) (cfg : Cfg) (ops : Array Oper) : Nat → Array Bool → List w5 → Fr → (Fr → Tree) → Tree
  | 0, listed, _, fr, K => if Region.ready .any ops listed = [] then K fr else .fail
  | f + 1, listed, dz, fr, K =>
    let rs := Region.ready .any ops listed
    if rs = [] then K fr else
    match lV P cfg ops listed 0 rs with
    | some i => match ops[i]? with
      | some o => oneOp P cfg ops o fr fun fr' => drawFrom P cfg ops f (listed.setIfInBounds i true) dz fr' K
      | none => .fail
    | none =>
      match lV P cfg ops listed 1 rs with
      | some i => match ops[i]? with
        | some o => oneOp P cfg ops o fr fun fr' =>
          match wZ ops o fr' with
          | some true => match o.dst with
            | some d => match fr'.get d with
              | some v =>
                if !(o.looksAt ops).contains d && o.op.operands.all (fun x => (fr'.eval x).isSome) then
                  drawFrom P cfg ops f (listed.setIfInBounds i true) (⟨i, nf P (execOp fr'.ev o), v⟩ :: dz) fr' K
                else .fail
              | none => .fail
            | none => .fail
          | some false =>
            if FY ops o then drawFrom P cfg ops f (listed.setIfInBounds i true) dz fr' K else .fail
          | none => .fail
        | none => .fail
      | none => match rs.find? (Bd P cfg ops listed dz) with
      | some i => match ops[i]? with
        | some o => goOp P cfg o fr fun fr' => drawFrom P cfg ops f (listed.setIfInBounds i true) [] fr' K
        | none => .fail
      | none => Cc (rs.map fun i => match ops[i]? with
        | some o => oneOp P cfg ops o fr fun fr' => EW (w5.after ops i dz) (drawFrom P cfg ops f (listed.setIfInBounds i true) (w5.after ops i dz) fr' K)
        | none => .fail)
def zI (P : Program) (cfg : Cfg) (ops : Array Oper) (fr : Fr) (K : Fr → Tree) : Tree :=
  if P.follows .mixedOrders && Region.noSelect ops then drawFrom P cfg ops ops.size (Array.replicate ops.size false) [] fr K else .fail
def codeTree (P : Program) (cfg : Cfg) : Nat → Code → Fr → (Ex → Fr → Tree) → Tree
  | 0, _, _, _ => .fail
  | f + 1, c, fr, K =>
    match c with
    | .skip | .label _ => K .normal fr
    | .region _ ops draw => bif draw then zI P cfg ops fr (K .normal) else Cr P cfg ops ops.toList fr (K .normal)
    | .seq a b => codeTree P cfg f a fr fun e fr' => match e with
      | .normal => codeTree P cfg f b fr' K
      | e => K e fr'
    | .cond c a b => match fr.eval c with
      | some (.bool t) => bif t then codeTree P cfg f a fr K else codeTree P cfg f b fr K
      | _ => .fail
    | .block id c => codeTree P cfg f c fr fun e fr' => match e with
      | .exit i => if i = id then K .normal fr' else K (.exit i) fr'
      | e => K e fr'
    | .loop c =>
      if (names c).contains (rG c) then .fail else
      match fr.getAll (slotsOf fr (writes c)) with
      | none => .fail
      | some vs => .loop (rG c) (vs.map IV) vs fun x =>
          codeTree P cfg f c (Fr.setAll (fr.forget (writes c)) (slotsOf fr (writes c)) (tX (vs.map IV) x)) fun e fr' => match e with
            | .normal => match fr'.getAll (slotsOf fr (writes c)) with
              | some vs' => .again (rG c) vs'
              | none => .fail
            | e => K e fr'
    | .scope c => inScopeTree (codeTree P cfg f) c 20 c fr K
    | .exit id => K (.exit id) fr
    | .goto l => K (.goto l) fr
    | .ret => K .ret fr
    | _ => .fail
def Fr.arr (fr : Fr) (n : Nat) : Array Value := ((List.range n).map fun i => (fr.get i).getD undef).toArray
def resSlot : ResultVar → Nat
  | .tmp t => t
  | .cell a _ => a
def vg (fn : Func) : Nat := (fn.results.toList.map resSlot).sum + 1
def Cj (fn : Func) (tmps : Array Value) : Sem Next := do pure (.value (← results fn tmps))
def yD (P : Program) (ts : List TypeId) : Sh :=
  match ts with
  | [] => .unit
  | [t] => .one (shOfType P t)
  | ts => .tup (ts.map (shOfType P))
def B8 (P : Program) (fn : Func) (e : Ex) (fr : Fr) : Tree :=
  match e with
  | .normal | .ret =>
    if fn.results.all (fun r => (fr.get (resSlot r)).isSome) then
      match pureRun P (Cj fn (fr.arr (vg fn))) with
      | some v => .ret v
      | none => .look (nf P (Cj fn (fr.arr (vg fn)))) (yD P fn.resultTypes.toList) fun x => .ret ((yD P fn.resultTypes.toList).fq x)
    else .fail
  | _ => .fail
/-- The tree of a function at its arguments. -/
def re (P : Program) (cfg : Cfg) (fn : Func) (args : List Value) : Tree :=
  match fn.body with
  | some c => codeTree P cfg 400 c (Fr.setAll (Fr.mkF 24 (args.length + (fn.ntmps - args.length))) (List.range args.length) args) (B8 P fn)
  | none => .fail
end Go.Fw
/- The code does what its tree does. -/
set_option linter.unusedVariables false
namespace Go.Fw
open Go
def Fr.has : Fr → Nat → Prop
  | .leaf, _ => False
  | .node l _ r, t => if t = 0 then True else if t % 2 = 1 then l.has (t / 2) else r.has (t / 2 - 1)
theorem nA (a b : Nat) : Nat.beq a b = decide (a = b) := by
  by_cases h : a = b
  · subst h; simp
  · rw [decide_eq_false h]; cases hc : Nat.beq a b with
    | false => rfl
    | true => exact (h (Nat.eq_of_beq_eq_true hc)).elim
theorem Fr.Ft : ∀ (d n t : Nat), (Fr.mkF d n).has t → t < n
  | 0, _, _, h => h.elim
  | d + 1, n, t, h => by
    unfold Fr.mkF at h
    rw [nA] at h
    by_cases hn : n = 0
    · rw [decide_eq_true hn] at h; exact h.elim
    · rw [decide_eq_false hn] at h
      simp only [cond_false, Fr.has] at h
      by_cases ht : t = 0
      · omega
      · rw [if_neg ht] at h
        split at h
        · have := Fr.Ft d _ _ h; omega
        · have := Fr.Ft d _ _ h; omega
theorem Fr.Fo : ∀ (d n t : Nat), (Fr.mkF d n).get t = none
  | 0, _, _ => rfl
  | d + 1, n, t => by
    unfold Fr.mkF
    cases Nat.beq n 0 with
    | true => rfl
    | false =>
      simp only [cond_false, Fr.get]
      cases Nat.beq t 0 with
      | true => rfl
      | false =>
        simp only [cond_false]
        cases Nat.beq (t % 2) 1 with
        | true => exact Fr.Fo d _ _
        | false => exact Fr.Fo d _ _
theorem Fr.vr : ∀ (fr : Fr) (t s : Nat) (v : Option Value), (fr.upd t v).has s → fr.has s
  | .leaf, _, _, _, h => h
  | .node l x r, t, s, v, h => by
    unfold Fr.upd at h
    rw [nA, nA] at h
    by_cases ht : t = 0
    · rw [decide_eq_true ht] at h; exact h
    · rw [decide_eq_false ht] at h
      by_cases ho : t % 2 = 1
      · rw [decide_eq_true ho] at h
        simp only [cond_false, cond_true, Fr.has] at h ⊢
        split
        · trivial
        · rename_i hs; rw [if_neg hs] at h
          split
          · rename_i h2; rw [if_pos h2] at h; exact Fr.vr l _ _ _ h
          · rename_i h2; rw [if_neg h2] at h; exact h
      · rw [decide_eq_false ho] at h
        simp only [cond_false, Fr.has] at h ⊢
        split
        · trivial
        · rename_i hs; rw [if_neg hs] at h
          split
          · rename_i h2; rw [if_pos h2] at h; exact h
          · rename_i h2; rw [if_neg h2] at h; exact Fr.vr r _ _ _ h
theorem Fr.vp : ∀ (fr : Fr) (t s : Nat) (v : Option Value) (u : Value), (fr.upd t v).get s = some u → (s = t ∧ v = some u ∧ fr.has t) ∨ (s ≠ t ∧ fr.get s = some u)
  | .leaf, _, _, _, _, h => by cases h
  | .node l x r, t, s, v, u, h => by
    unfold Fr.upd at h
    rw [nA, nA] at h
    by_cases ht : t = 0
    · rw [decide_eq_true ht] at h
      simp only [cond_true, Fr.get, nA] at h
      by_cases hs : s = 0
      · rw [decide_eq_true hs] at h
        refine .inl ⟨by omega, h, ?_⟩
        simp only [Fr.has, if_pos ht]
      · rw [decide_eq_false hs] at h
        refine .inr ⟨by omega, ?_⟩
        simp only [Fr.get, nA]; rw [decide_eq_false hs]; exact h
    · rw [decide_eq_false ht] at h
      by_cases ho : t % 2 = 1
      · rw [decide_eq_true ho] at h
        simp only [cond_true, cond_false, Fr.get, nA] at h ⊢
        by_cases hs : s = 0
        · rw [decide_eq_true hs] at h ⊢
          exact .inr ⟨by omega, h⟩
        · rw [decide_eq_false hs] at h ⊢
          simp only [cond_false] at h ⊢
          by_cases h2 : s % 2 = 1
          · rw [decide_eq_true h2] at h ⊢
            rcases Fr.vp l _ _ _ _ h with ⟨e1, e2, e3⟩ | ⟨e1, e2⟩
            · refine .inl ⟨by omega, e2, ?_⟩
              simp only [Fr.has, if_neg ht, if_pos ho]; exact e3
            · exact .inr ⟨by omega, e2⟩
          · rw [decide_eq_false h2] at h ⊢
            exact .inr ⟨by omega, h⟩
      · rw [decide_eq_false ho] at h
        simp only [cond_false, Fr.get, nA] at h ⊢
        by_cases hs : s = 0
        · rw [decide_eq_true hs] at h ⊢
          exact .inr ⟨by omega, h⟩
        · rw [decide_eq_false hs] at h ⊢
          simp only [cond_false] at h ⊢
          by_cases h2 : s % 2 = 1
          · rw [decide_eq_true h2] at h ⊢
            exact .inr ⟨by omega, h⟩
          · rw [decide_eq_false h2] at h ⊢
            rcases Fr.vp r _ _ _ _ h with ⟨e1, e2, e3⟩ | ⟨e1, e2⟩
            · refine .inl ⟨by omega, e2, ?_⟩
              simp only [Fr.has, if_neg ht, if_neg ho]; exact e3
            · exact .inr ⟨by omega, e2⟩
structure gM (fr : Fr) (a : Act) : Prop where
  size : ∀ t, fr.has t → t < a.tmps.size
  val : ∀ (i : Nat) (v : Value), fr.get i = some v → a.tmps[i]? = some v
/-- The same slots but for those of W. -/
structure jn (W : List Nat) (a' a : Act) : Prop where
  size : a'.tmps.size = a.tmps.size
  val : ∀ i, i ∉ W → a'.tmps[i]? = a.tmps[i]?
theorem jn.refl (W : List Nat) (a : Act) : jn W a a := ⟨rfl, fun _ _ => rfl⟩
theorem jn.mono {W W' : List Nat} {a a' : Act} (h : jn W a' a) (hw : ∀ i, i ∈ W → i ∈ W') : jn W' a' a := ⟨h.size, fun i hi => h.val i fun hm => hi (hw i hm)⟩
theorem jn.trans {W : List Nat} {a a' a2 : Act} (h : jn W a2 a') (k : jn W a' a) : jn W a2 a := ⟨h.size.trans k.size, fun i hi => (h.val i hi).trans (k.val i hi)⟩
theorem gM.get {fr : Fr} {a : Act} (h : gM fr a) {t : Nat} {v : Value} (hg : fr.get t = some v) : a.tmps[t]? = some v := h.val _ _ hg
theorem gM.eval {fr : Fr} {a : Act} (h : gM fr a) {x : Operand} {v : Value} (hx : fr.eval x = some v) : a.eval x = v := by
  cases x with
  | tmp t => simp only [Fr.eval] at hx; simp only [Act.eval]; rw [Array.getD_eq_getD_getElem?, h.get hx]; rfl
  | const u => simp only [Fr.eval, Option.some.injEq] at hx; exact hx
  | global g => simp only [Fr.eval, Option.some.injEq] at hx; exact hx
  | func f => simp only [Fr.eval, Option.some.injEq] at hx; exact hx
theorem gM.set {fr : Fr} {a : Act} (h : gM fr a) (t : Nat) (v : Value) : gM (fr.upd t (some v)) { a with tmps := a.tmps.setIfInBounds t v } := by
  refine ⟨fun s hs => by simpa using h.size s (Fr.vr _ _ _ _ hs), fun i u hi => ?_⟩
  simp only [Array.getElem?_setIfInBounds]
  rcases Fr.vp _ _ _ _ _ hi with ⟨e1, e2, e3⟩ | ⟨e1, e2⟩
  · rw [if_pos e1.symm, if_pos (h.size t e3), e2]
  · rw [if_neg (fun e => e1 e.symm)]; exact h.val i u e2
theorem gM.put {fr : Fr} {a : Act} (h : gM fr a) (d : Option Tmp) (v : Value) : gM (fr.put d v) (a.put d v) := by
  cases d with
  | none => exact h
  | some t => exact h.set t v
theorem gM.same {fr : Fr} {a : Act} (h : gM fr a) {t : Nat} {v : Value} (hv : fr.get t = some v) : gM (fr.upd t (some v)) a := by
  refine ⟨fun s hs => h.size s (Fr.vr _ _ _ _ hs), fun i u hi => ?_⟩
  rcases Fr.vp _ _ _ _ _ hi with ⟨e1, e2, e3⟩ | ⟨e1, e2⟩
  · rw [e1, ← e2]; exact h.get hv
  · exact h.val i u e2
theorem Bb {a : Act} {d : Option Tmp} {v : Value} {i : Nat} (h : d ≠ some i) : (a.put d v).tmps[i]? = a.tmps[i]? := by
  cases d with
  | none => rfl
  | some t =>
    have : t ≠ i := fun e => h (by rw [e])
    simp [Act.put, Array.getElem?_setIfInBounds_ne this]
theorem Dv (a : Act) (d : Option Tmp) (v : Value) : (a.put d v).tmps.size = a.tmps.size := by
  cases d with
  | none => rfl
  | some t => simp [Act.put]
theorem put_defers (a : Act) (d : Option Tmp) (v : Value) : (a.put d v).defers = a.defers := by cases d <;> rfl
theorem A4 {op : Op} (h : Op.isSelect op = false) : ∀ cs b, op ≠ .select cs b := by
  intro cs b e
  subst e
  simp [Op.isSelect] at h
theorem F0 {P : Program} {α : Type} (s : Sem α) : ∀ {H : Heap} {Q : α → Heap → Prop}, fu P (nf P s) H Q → fu P s H Q := by
  induction s with
  | pure a => intro H Q h; exact h
  | load m a k ih => intro H Q h; obtain ⟨v, hc, h⟩ := h; exact ⟨v, hc, ih v h⟩
  | store m a v k ih => intro H Q h; exact ⟨h.1, h.2.1, h.2.2.1, ih h.2.2.2⟩
  | new o k ih => intro H Q h; exact ⟨h.1, fun b hb => ih b (h.2 b hb)⟩
  | shape r k ih => intro H Q h; exact ⟨h.1, ih _ h.2⟩
  | frozen a k ih => intro H Q h; exact ⟨h.1, ih _ h.2⟩
  | getObj r k ih => intro H Q h; obtain ⟨o, h1, h2, h3⟩ := h; exact ⟨o, h1, h2, ih _ h3⟩
  | setObj r o k ih => intro H Q h; exact ⟨h.1, h.2.1, ih h.2.2⟩
  | choose q k ih => intro H Q h; exact ⟨fun e => ih _ (h.1 e), fun e t => ih _ (h.2 e t)⟩
  | program k ih => intro H Q h; exact ih P h
  | mark m k ih => intro H Q h; exact ih h
  | _ => intro H Q h; exact h.elim
theorem xB {P : Program} {α : Type} (s : Sem α) : ∀ {H : Heap} {Q : α → Prop}, cq P (nf P s) H Q → cq P s H Q := by
  induction s with
  | pure a => intro H Q h; exact h
  | load m a k ih => intro H Q h; obtain ⟨v, hc, h⟩ := h; exact ⟨v, hc, ih v h⟩
  | shape r k ih => intro H Q h; exact ⟨h.1, ih _ h.2⟩
  | frozen a k ih => intro H Q h; exact ⟨h.1, ih _ h.2⟩
  | getObj r k ih => intro H Q h; obtain ⟨o, h1, h2, h3⟩ := h; exact ⟨o, h1, h2, ih _ h3⟩
  | program k ih => intro H Q h; exact ih P h
  | mark m k ih => intro H Q h; exact ih h
  | _ => intro H Q h; exact h.elim
theorem Ba {P : Program} {α : Type} (s : Sem α) : ∀ {H : Heap} {Q : α → Prop}, cq P s H Q → cq P (nf P s) H Q := by
  induction s with
  | pure a => intro H Q h; exact h
  | load m a k ih => intro H Q h; obtain ⟨v, hc, h⟩ := h; exact ⟨v, hc, ih v h⟩
  | shape r k ih => intro H Q h; exact ⟨h.1, ih _ h.2⟩
  | frozen a k ih => intro H Q h; exact ⟨h.1, ih _ h.2⟩
  | getObj r k ih => intro H Q h; obtain ⟨o, h1, h2, h3⟩ := h; exact ⟨o, h1, h2, ih _ h3⟩
  | program k ih => intro H Q h; exact ih P h
  | mark m k ih => intro H Q h; exact ih h
  | _ => intro H Q h; exact h.elim
theorem jy {P : Program} {α : Type} (s : Sem α) : ∀ {H : Heap} {Q : α → Prop}, cq P s H Q → fu P s H (fun a H' => Q a ∧ H' = H) := by
  induction s with
  | pure a => intro H Q h; exact ⟨h, rfl⟩
  | load m a k ih => intro H Q h; obtain ⟨v, hc, h⟩ := h; exact ⟨v, hc, ih v h⟩
  | shape r k ih => intro H Q h; exact ⟨h.1, ih _ h.2⟩
  | frozen a k ih => intro H Q h; exact ⟨h.1, ih _ h.2⟩
  | getObj r k ih => intro H Q h; obtain ⟨o, h1, h2, h3⟩ := h; exact ⟨o, h1, h2, ih _ h3⟩
  | program k ih => intro H Q h; exact ih P h
  | mark m k ih => intro H Q h; exact ih h
  | _ => intro H Q h; exact h.elim
theorem iA {P : Program} (s : Sem Next) : ∀ {v : Value} (H : Heap), pureRun P s = some v → cq P s H (fun n => nextL P n H v) := by
  induction s with
  | pure a => intro v H h; cases a <;> simp only [pureRun] at h <;> first | (cases h; done) | (cases h; rfl)
  | program k ih => intro v H h; exact ih P H h
  | mark m k ih => intro v H h; exact ih H h
  | _ => intro v H h; simp only [pureRun] at h; cases h
theorem vU {P : Program} (s : Sem Next) : ∀ {v : Value} {H : Heap} {R : Value → Heap → Prop}, amade P s v → R v H → fu P s H (fun n H' => nextW P n H' R) := by
  induction s with
  | pure a => intro v H R h hR; cases a <;> simp only [amade] at h <;> first | exact h.elim | (subst h; exact hR)
  | program k ih => intro v H R h hR; exact ih P h hR
  | mark m k ih => intro v H R h hR; exact ih h hR
  | _ => intro v H R h; exact h.elim
theorem qs {P : Program} (s : Sem Next) : ∀ {o : Obj} {val : Nat → Value} {H : Heap} {R : Value → Heap → Prop}, amake P s o val → (∀ b, H b = none → R (val b) (H.set b o)) →
    fu P s H (fun n H' => nextW P n H' R) := by
  induction s with
  | new o' k ih => intro o val H R h hR; obtain ⟨⟨rfl, hp⟩, h⟩ := h; exact ⟨hp, fun b hb => vU _ (h b) (hR b hb)⟩
  | program k ih => intro o val H R h hR; exact ih P h hR
  | mark m k ih => intro o val H R h hR; exact ih h hR
  | _ => intro o val H R h; exact h.elim
theorem kR {P : Program} {n : Next} {H : Heap} {v : Value} {R : Value → Heap → Prop} (h : nextL P n H v) (hR : R v H) : nextW P n H R := by
  cases n <;> simp only [nextL] at h <;> simp only [nextW] <;> first | exact h.elim | skip
  · subst h; exact hR
  · exact h.less fun u H' ⟨hu, hl⟩ => ⟨H, hl, by subst hu; exact hR⟩
/-! ### Makers -/
def AV (P : Program) {α : Type} : Sem α → Prop
  | .program k => AV P (k P)
  | .mark _ k => AV P k
  | .choose _ k => ∀ n, AV P (k n)
  | .halt _ => True
  | _ => False
def NoH (P : Program) {α : Type} : Sem α → Prop
  | .pure _ => True
  | .program k => NoH P (k P)
  | .mark _ k => NoH P k
  | .halt _ => True
  | _ => False
def Hl (P : Program) : Sem Next → Prop
  | .pure n => ∃ v, n = .value v
  | .program k => Hl P (k P)
  | .mark _ k => Hl P k
  | .choose _ k => ∀ n, AV P (k n)
  | .halt _ => True
  | .new _ k => ∀ b, ∃ v, amade P (k b) v
  | _ => False
theorem vo {P : Program} {α β : Type} (s : Sem α) (k : α → Sem β) : AV P s → AV P (s.bind k) := by
  induction s with
  | program j ih => intro h; exact ih P h
  | mark m j ih => intro h; exact ih h
  | choose q j ih => intro h n; exact ih n (h n)
  | halt x => intro _; trivial
  | _ => intro h; exact h.elim
theorem z3 {P : Program} {α β : Type} (s : Sem α) (k : α → Sem β) : NoH P s → (∀ a, NoH P (k a)) → NoH P (s.bind k) := by
  induction s with
  | pure a => intro _ hk; exact hk a
  | program j ih => intro h hk; exact ih P h hk
  | mark m j ih => intro h hk; exact ih h hk
  | halt x => intro _ _; trivial
  | _ => intro h; exact h.elim
theorem Db {P : Program} {α : Type} (s : Sem α) : ∀ {H : Heap} {Q : α → Heap → Prop}, AV P s → ¬ fu P s H Q := by
  induction s with
  | program j ih => intro H Q h; exact ih P h
  | mark m j ih => intro H Q h; exact ih h
  | choose q j ih =>
    intro H Q h ha
    cases hq : q.forced with
    | true => exact ih _ (h _) (ha.1 hq)
    | false => exact ih _ (h _) (ha.2 hq 0)
  | halt x => intro H Q _ h; exact h
  | _ => intro H Q h; exact h.elim
theorem Lb {P : Program} (s : Sem Next) : ∀ {H : Heap} {Q : Next → Heap → Prop}, Hl P s → fu P s H Q → (∃ v, amade P s v) ∨ ∃ o val, amake P s o val := by
  induction s with
  | pure a => intro H Q h _; obtain ⟨v, rfl⟩ := h; exact .inl ⟨v, rfl⟩
  | program j ih => intro H Q h ha; exact ih P h ha
  | mark m j ih => intro H Q h ha; exact ih h ha
  | choose q j ih =>
    intro H Q h ha
    exfalso
    cases hq : q.forced with
    | true => exact Db _ (h _) (ha.1 hq)
    | false => exact Db _ (h _) (ha.2 hq 0)
  | new o k ih => intro H Q h ha; exact .inr ⟨o, fun b => Classical.choose (h b), ⟨rfl, ha.1⟩, fun b => Classical.choose_spec (h b)⟩
  | halt x => intro H Q _ h; exact h.elim
  | _ => intro H Q h; exact h.elim
theorem Ah {P : Program} (s : Sem Next) : ∀ {v : Value} {H : Heap} {R : Value → Heap → Prop}, amade P s v → fu P s H (fun n H' => nextW P n H' R) → R v H := by
  induction s with
  | pure a => intro v H R h hR; cases a <;> simp only [amade] at h <;> first | exact h.elim | (subst h; exact hR)
  | program k ih => intro v H R h hR; exact ih P h hR
  | mark m k ih => intro v H R h hR; exact ih h hR
  | _ => intro v H R h; exact h.elim
theorem Ez {P : Program} (s : Sem Next) : ∀ {o : Obj} {val : Nat → Value} {H : Heap} {R : Value → Heap → Prop}, amake P s o val → fu P s H (fun n H' => nextW P n H' R) →
    ∀ b, H b = none → R (val b) (H.set b o) := by
  induction s with
  | new o' k ih => intro o val H R h hR b hb; obtain ⟨⟨rfl, _⟩, h⟩ := h; exact Ah _ (h b) (hR.2 b hb)
  | program k ih => intro o val H R h hR; exact ih P h hR
  | mark m k ih => intro o val H R h hR; exact ih h hR
  | _ => intro o val H R h; exact h.elim
theorem J8 {P : Program} (s : Sem Next) : ∀ {o : Obj} {val : Nat → Value}, amake P (nf P s) o val → amake P s o val := by
  have made : ∀ (s : Sem Next) {v : Value}, amade P (nf P s) v → amade P s v := by
    intro s
    induction s with
    | pure a => intro v h; exact h
    | program k ih => intro v h; exact ih P h
    | mark m k ih => intro v h; exact ih h
    | _ => intro v h; exact h.elim
  induction s with
  | new o' k ih => intro o val h; exact ⟨h.1, fun b => made _ (h.2 b)⟩
  | program k ih => intro o val h; exact ih P h
  | mark m k ih => intro o val h; exact ih h
  | _ => intro o val h; exact h.elim
theorem noh_typeInfo {P : Program} (t : TypeId) : NoH P (typeInfo t) := by
  show NoH P (match P.info? t with | some i => pure i | none => stuck "no such type" : Sem TypeInfo)
  split <;> trivial
theorem noh_underlying {P : Program} (t : TypeId) : NoH P (underlying t) := by
  show NoH P (match P.underlying t with | some d => pure d | none => stuck "no such type" : Sem TypeDesc)
  split <;> trivial
theorem AT {P : Program} (t : TypeId) : NoH P (zeroValue t) := by
  refine z3 _ _ (noh_typeInfo t) fun i => ?_
  split <;> trivial
theorem Ew {P : Program} (t : TypeId) : NoH P (sizeOf t) := z3 _ _ (noh_typeInfo t) fun _ => trivial
theorem BA {P : Program} (v : Value) : NoH P (asInt v) := by
  refine z3 _ _ ?_ fun _ => trivial
  cases v <;> first | trivial | skip
  rename_i a
  cases a <;> trivial
theorem sW {P : Program} {α : Type} (m : String) : AV P (runtimePanic (.error m) : Sem α) := trivial
/-- One operation, said of views. -/
def uV (P : Program) (o : Oper) (a : Act) (H : Heap) (R : Value → Heap → Prop) : Prop := fu P (execOp a.eval o) H fun n H' => nextW P n H' R
theorem AI {P : Program} {o : Oper} {a : Act} {H : Heap} {R R' : Value → Heap → Prop} (h : uV P o a H R) (hr : ∀ v H', R v H' → R' v H') : uV P o a H R' :=
  iY _ h fun _ _ hn => oJ hn hr
theorem yC {w0 : World} {P : Program} {o : Oper} {a : Act} {H : Heap} {R : Value → Heap → Prop} {w : World} {N : Act → World → Prop} {Q : Exit → Act → World → Prop}
    (h : uV P o a H R) (hw : dF w0 w H) (hN : ∀ v w' H', dF w0 w' H' → R v H' → N (a.put o.dst v) w') : o.wp P a w N Q := by
  obtain ⟨n, w1, H1, hr, hh, hn⟩ := Fk P _ _ _ _ hw h
  unfold Oper.wp
  rw [hr]
  cases n <;> simp only [nextW] at hn <;> simp only [Oper.upon] <;> first | exact hn.elim | skip
  case value v => exact hN _ _ _ hh hn
  case skip => exact hN _ _ _ hh hn
  case enter f args =>
    refine (hn w0 w1 hh).mono fun e w' ⟨v, H', he, hh', hv⟩ => ?_
    subst he
    exact hN _ _ _ hh' hv
section
variable {w0 : World} {P : Program} {cfg : Cfg}
theorem sk {o : Oper} {fr : Fr} {a : Act} (hf : gM fr a) (hsel : Op.isSelect o.op = false) (hall : o.op.operands.all (fun x => (fr.eval x).isSome) = true) :
    execOp a.eval o = execOp fr.ev o := by
  refine execOp_congr o (A4 hsel) fun x hx => ?_
  have := Array.all_eq_true_iff_forall_mem.1 hall x hx
  obtain ⟨v, hv⟩ := Option.isSome_iff_exists.1 this
  rw [hf.eval hv]; unfold Fr.ev; rw [hv]; rfl
theorem Bx {o : Oper} {a : Act} {c x y : Operand} {t : Bool} (hop : o.op = .pick c x y) (hc : a.eval c = .bool t) : pureRun P (execOp a.eval o) = some (if t then a.eval x else a.eval y) := by
  unfold execOp; rw [hop]; simp only [hc, asBool]; rfl
theorem Jz {o : Oper} {fr : Fr} {K : Fr → Tree} {L : aZ} {H : Heap} {R : Value → Heap → Prop} {a : Act}
    (hf : gM fr a) (h : wp P (goOp P cfg o fr K) L H R) : uV P o a H fun v H' => wp P (K (fr.put o.dst v)) L H' R := by
  unfold uV
  unfold goOp at h
  split at h
  · rename_i c x y hop
    split at h
    · rename_i t hc
      have hp := Bx (P := P) hop (hf.eval hc)
      refine iY _ (jy _ (iA _ H hp)) fun n H' ⟨hn, hH⟩ => ?_
      subst hH
      refine kR hn ?_
      cases t with
      | true =>
        simp only [cond_true] at h
        split at h
        · rename_i v hv; rw [if_pos rfl, hf.eval hv]; exact h
        · exact h.elim
      | false =>
        simp only [cond_false] at h
        split at h
        · rename_i v hv; simp only [Bool.false_eq_true, if_false]; rw [hf.eval hv]; exact h
        · exact h.elim
    · exact h.elim
  · rename_i op hop
    split at h
    · exact h.elim
    · rename_i hsel
      split at h
      · rename_i hall
        rw [sk hf (by simpa using hsel) hall]
        split at h
        · split at h
          · rename_i v hv
            refine iY _ (jy _ (iA _ H hv)) fun n H' ⟨hn, hH⟩ => ?_
            subst hH
            exact kR hn h
          · exact h.elim
        · obtain ⟨x, hx, h⟩ := h
          refine iY _ (jy _ (xB _ hx)) fun n H' ⟨hn, hH⟩ => ?_
          subst hH
          exact kR hn h
        · exact iY _ (F0 _ h) fun n H' hn => oJ hn fun v H'' ⟨x, hx, h⟩ => by subst hx; exact h
        · obtain ⟨ob, val, hm, h⟩ := h
          exact F0 _ (qs _ hm fun b hb => by obtain ⟨x, hx, h⟩ := h b hb; rw [hx]; exact h)
      · exact h.elim
/-- An operation that only looks, or does not even that. -/
theorem Fl {o : Oper} {fr : Fr} {K : Fr → Tree} {L : aZ} {H : Heap} {R : Value → Heap → Prop} {a : Act}
    (hf : gM fr a) (ht : tag P cfg o = 0 ∨ tag P cfg o = 1) (h : wp P (goOp P cfg o fr K) L H R) :
    ∃ v, cq P (execOp a.eval o) H (fun n => nextL P n H v) ∧ wp P (K (fr.put o.dst v)) L H R ∧
      (tag P cfg o = 0 → ∀ H', cq P (execOp a.eval o) H' (fun n => nextL P n H' v)) ∧ (tag P cfg o = 1 → execOp a.eval o = execOp fr.ev o) := by
  unfold goOp at h
  split at h
  · rename_i c x y hop
    split at h
    · rename_i t hc
      have hp := Bx (P := P) hop (hf.eval hc)
      refine ⟨_, iA _ H hp, ?_, fun _ H' => iA _ H' hp, fun h1 => by simp [tag, hop] at h1⟩
      cases t with
      | true =>
        simp only [cond_true] at h
        split at h
        · rename_i v hv; rw [if_pos rfl, hf.eval hv]; exact h
        · exact h.elim
      | false =>
        simp only [cond_false] at h
        split at h
        · rename_i v hv; simp only [Bool.false_eq_true, if_false]; rw [hf.eval hv]; exact h
        · exact h.elim
    · exact h.elim
  · rename_i op hop
    have htag : tag P cfg o = match zM P cfg o with | .pure => 0 | .look _ => 1 | _ => 2 := by
      unfold tag
      split
      · rename_i c x y h1; exact absurd h1 (hop c x y)
      · rfl
    split at h
    · exact h.elim
    · rename_i hsel
      split at h
      · rename_i hall
        have hex := sk hf (by simpa using hsel) hall
        split at h
        · split at h
          · rename_i hk _ v hv
            rw [hex]
            exact ⟨v, iA _ H hv, h, fun _ H' => iA _ H' hv, fun _ => rfl⟩
          · exact h.elim
        · rename_i sh hk
          obtain ⟨x, hx, h⟩ := h
          rw [hex]
          refine ⟨_, xB _ hx, h, fun h0 => ?_, fun _ => rfl⟩
          rw [htag, hk] at h0; cases h0
        · rename_i sh hk; rw [htag, hk] at ht; rcases ht with ht | ht <;> cases ht
        · rename_i sh hk; rw [htag, hk] at ht; rcases ht with ht | ht <;> cases ht
      · exact h.elim
theorem GL {o : Oper} {fr : Fr} {K : Fr → Tree} {L : aZ} {H : Heap} {R : Value → Heap → Prop} {a : Act}
    (hf : gM fr a) (hk : isMakeKind P cfg o = true) (h : wp P (goOp P cfg o fr K) L H R) :
    ∃ ob val, amake P (execOp a.eval o) ob val ∧ ∀ b, H b = none → wp P (K (fr.put o.dst (val b))) L (H.set b ob) R := by
  unfold goOp at h
  split at h
  · rename_i c x y hop; simp [isMakeKind, hop] at hk
  · rename_i op hop
    split at h
    · exact h.elim
    · rename_i hsel
      split at h
      · rename_i hall
        have hex := sk hf (by simpa using hsel) hall
        have hk' : ∃ sh, zM P cfg o = .make sh := by
          unfold isMakeKind at hk
          split at hk
          · cases hk
          · split at hk
            · rename_i sh hs; exact ⟨sh, hs⟩
            · cases hk
        obtain ⟨sh, hs⟩ := hk'
        rw [hs] at h
        obtain ⟨ob, val, hm, h⟩ := h
        refine ⟨ob, val, by rw [hex]; exact J8 _ hm, fun b hb => ?_⟩
        obtain ⟨x, hx, h⟩ := h b hb
        rw [hx]; exact h
      · exact h.elim
theorem w6 {ops : Array Oper} {j t : Nat} {a : Act} {b : Bool} (ht : (ops[j]?).bind (·.dst) = some t) (hv : a.tmps[t]? = some (.bool b)) : yielded ops a.tmps j = some b := by
  unfold yielded; rw [ht, Option.bind_some, hv]
theorem vH {ops : Array Oper} {j t : Nat} {a : Act} {vs : Array Value} (ht : (ops[j]?).bind (·.dst) = some t) (hv : a.tmps[t]? = some (.tuple vs)) : yielded ops a.tmps j = none := by
  unfold yielded; rw [ht, Option.bind_some, hv]
/-- What comes of an operation with its guard: the frame in which it is carried out, or passed over. -/
theorem yS {ops : Array Oper} {o : Oper} {fr : Fr} {K : Fr → Tree} {L : aZ} {H : Heap} {R : Value → Heap → Prop} {a : Act}
    (hf : gM fr a) (h : wp P (oneOp P cfg ops o fr K) L H R) :
    (Region.wanted o (yielded ops a.tmps) = true ∧ ∃ fr1, gM fr1 a ∧ wp P (goOp P cfg o fr1 K) L H R) ∨
    (Region.wanted o (yielded ops a.tmps) = false ∧ ∃ fr1, gM fr1 (a.put o.dst undef) ∧ wp P (K fr1) L H R) := by
  unfold oneOp at h
  split at h
  · rename_i hg
    exact .inl ⟨by simp [Region.wanted, hg], fr, hf, h⟩
  · rename_i j want hg
    split at h
    · exact h.elim
    · rename_i t ht
      split at h
      · rename_i b hb
        have hy := w6 ht (hf.get hb)
        have hwt : Region.wanted o (yielded ops a.tmps) = (b == want) := by
          simp only [Region.wanted, hg, hy]; cases b <;> cases want <;> rfl
        have hf' := hf.same hb
        cases b <;> cases want <;> simp only [cond_true, cond_false] at h <;> rw [hwt]
        · exact .inl ⟨rfl, _, hf', h⟩
        · exact .inr ⟨rfl, _, hf'.put _ _, h⟩
        · exact .inr ⟨rfl, _, hf'.put _ _, h⟩
        · exact .inl ⟨rfl, _, hf', h⟩
      · rename_i vs hb
        have hy := vH ht (hf.get hb)
        have hwt : Region.wanted o (yielded ops a.tmps) = false := by
          simp only [Region.wanted, hg, hy]; cases want <;> rfl
        exact .inr ⟨hwt, _, hf.put _ _, h⟩
      · exact h.elim
theorem AX {ops : Array Oper} {o : Oper} {fr : Fr} {K : Fr → Tree} {L : aZ} {H : Heap} {R : Value → Heap → Prop} {a : Act} {N : Act → Heap → Prop}
    (hf : gM fr a) (h : wp P (oneOp P cfg ops o fr K) L H R)
    (hK : ∀ v fr' H', gM fr' (a.put o.dst v) → wp P (K fr') L H' R → N (a.put o.dst v) H') :
    if Region.wanted o (yielded ops a.tmps) then uV P o a H (fun v H' => N (a.put o.dst v) H') else N (a.put o.dst undef) H := by
  rcases yS hf h with ⟨hwt, fr1, hf1, h1⟩ | ⟨hwt, fr1, hf1, h1⟩
  · rw [if_pos hwt]
    exact AI (Jz hf1 h1) fun v H' hk => hK v _ H' (hf1.put _ _) hk
  · rw [if_neg (by rw [hwt]; decide)]
    exact hK _ _ _ hf1 h1
theorem Dx {ops : Array Oper} {o : Oper} {fr : Fr} {K : Fr → Tree} {L : aZ} {H : Heap} {R : Value → Heap → Prop} {a : Act} {w : World} {N : Act → World → Prop} {Q : Exit → Act → World → Prop}
    (hf : gM fr a) (hw : dF w0 w H) (h : wp P (oneOp P cfg ops o fr K) L H R)
    (hK : ∀ v fr' w' H', gM fr' (a.put o.dst v) → dF w0 w' H' → wp P (K fr') L H' R → N (a.put o.dst v) w') :
    if Region.wanted o (yielded ops a.tmps) then o.wp P a w N Q else N (a.put o.dst undef) w := by
  have h1 := AX (N := fun a' H' => ∃ fr', gM fr' a' ∧ wp P (K fr') L H' R) hf h fun v fr' H' hf' hk => ⟨fr', hf', hk⟩
  split
  · rename_i hwt
    rw [if_pos hwt] at h1
    exact yC h1 hw fun v w' H' hw' ⟨fr', hf', hk⟩ => hK v fr' w' H' hf' hw' hk
  · rename_i hwt
    rw [if_neg hwt] at h1
    obtain ⟨fr', hf', hk⟩ := h1
    exact hK _ fr' w H hf' hw hk
theorem vP {ops : Array Oper} {K : Fr → Tree} {L : aZ} {R : Value → Heap → Prop} {Q : Exit → Act → World → Prop} : ∀ (l : List Oper) (fr : Fr) (H : Heap) (a : Act) (w : World),
    gM fr a → a.defers = [] → dF w0 w H → wp P (Cr P cfg ops l fr K) L H R →
    (∀ fr' a' w' H', gM fr' a' → a'.defers = [] → dF w0 w' H' → jn (l.filterMap (·.dst)) a' a → wp P (K fr') L H' R → Q .normal a' w') →
    wpList P ops Q l a w
  | [], fr, H, a, w, hf, hd, hw, h, hK => hK fr a w H hf hd hw (jn.refl _ _) h
  | o :: l, fr, H, a, w, hf, hd, hw, h, hK => by
    have h1 := Dx (Q := Q) (N := wpList P ops Q l) hf hw h fun v fr' w' H' hf' hw' hk =>
      vP l fr' H' _ w' hf' (by rw [put_defers]; exact hd) hw' hk fun fr2 a2 w2 H2 hf2 hd2 hw2 hs hk2 =>
        hK fr2 a2 w2 H2 hf2 hd2 hw2 ((hs.mono fun i hm => by
            rw [List.mem_filterMap] at hm ⊢
            obtain ⟨x, hx, hxi⟩ := hm
            exact ⟨x, List.mem_cons_of_mem _ hx, hxi⟩).trans
          ⟨Dv _ _ _, fun i hi => Bb fun e => hi (by rw [List.mem_filterMap]; exact ⟨o, List.mem_cons_self, e⟩)⟩) hk2
    unfold wpList
    split
    · rename_i hwt; rw [if_pos hwt] at h1; exact .inl h1
    · rename_i hwt; rw [if_neg hwt] at h1; exact h1
/-! ### Regions whose order is open -/
def aOp (P : Program) (ops : Array Oper) (i : Nat) (K : Act → Heap → Prop) (a : Act) (H : Heap) : Prop :=
  match ops[i]? with
  | none => K a H
  | some o => if Region.wanted o (yielded ops a.tmps) then uV P o a H (fun v H' => K (a.put o.dst v) H') else K (a.put o.dst undef) H
structure Pd where
  i : Nat
  St : Heap → Prop
def Pd.after (ops : Array Oper) (j : Nat) (l : List Pd) : List Pd := l.filter fun p => !reach ops ops.size j p.i
def Fin (H : Heap) : Prop := ∃ N, ∀ b, N ≤ b → H b = none
theorem dF.fin {w0 w : World} {H : Heap} (h : dF w0 w H) : Fin H := ⟨w.heap.size, fun b hb => by
  cases hH : H b with
  | none => rfl
  | some o => have := h.blk _ _ hH; rw [Array.getElem?_eq_none hb] at this; cases this⟩
theorem Fin.set {H : Heap} (h : Fin H) (b : Nat) (o : Obj) : Fin (H.set b o) := by
  obtain ⟨N, hN⟩ := h
  refine ⟨max N (b + 1), fun c hc => ?_⟩
  unfold Heap.set
  rw [if_neg (by omega)]
  exact hN c (by omega)
/-- Whatever order is taken from here on; what was looked at ahead of its turn stays as it was. -/
def dwp (P : Program) (ops : Array Oper) (Q : Act → Heap → Prop) : Nat → Array Bool → List Pd → Act → Heap → Prop
  | 0, listed, _, a, H => Region.ready .any ops listed = [] ∧ Q a H
  | f + 1, listed, dz, a, H => Fin H → (Region.ready .any ops listed = [] → Q a H) ∧ ∀ i ∈ Region.ready .any ops listed,
      aOp P ops i (fun a' H' => (∀ p ∈ Pd.after ops i dz, p.St H') ∧ dwp P ops Q f (listed.setIfInBounds i true) (Pd.after ops i dz) a' H') a H
theorem Ab {ops : Array Oper} {i : Nat} {K K' : Act → Heap → Prop} {a : Act} {H : Heap} (h : aOp P ops i K a H) (hk : ∀ a H, K a H → K' a H) : aOp P ops i K' a H := by
  unfold aOp at *
  split
  · rename_i ho; simp only [ho] at h; exact hk _ _ h
  · rename_i o ho
    simp only [ho] at h
    split
    · rename_i hw; rw [if_pos hw] at h; exact AI h fun _ _ => hk _ _
    · rename_i hw; rw [if_neg hw] at h; exact hk _ _ h
theorem GP {ops : Array Oper} {i : Nat} {K : Act → Heap → Prop} {a : Act} {H : Heap} {w : World} {N : Act → World → Prop} {Q : Exit → Act → World → Prop} (h : aOp P ops i K a H) (hw : dF w0 w H)
    (hk : ∀ a w H, dF w0 w H → K a H → N a w) : wpOp P ops Q i N a w := by
  unfold aOp at h
  unfold wpOp
  split at h
  · rename_i ho; simp only [ho]; exact hk _ _ _ hw h
  · rename_i o ho
    simp only [ho]
    split at h
    · rename_i hwt; rw [if_pos hwt]; exact .inl (yC h hw fun v w' H' hw' hk' => hk _ _ _ hw' hk')
    · rename_i hwt; rw [if_neg hwt]; exact hk _ _ _ hw h
theorem Bz {ops : Array Oper} {QA : Act → Heap → Prop} {Q : Exit → Act → World → Prop} (hQ : ∀ a w H, dF w0 w H → QA a H → Q .normal a w) : ∀ (f : Nat) (listed : Array Bool) (dz : List Pd) (a : Act) (H : Heap) (w : World),
    dwp P ops QA f listed dz a H → dF w0 w H → wpAny P .any ops Q f listed a w
  | 0, _, _, _, _, _, h, hw => ⟨h.1, hQ _ _ _ hw h.2⟩
  | f + 1, _, _, _, _, _, h, hw => ⟨fun h0 => hQ _ _ _ hw ((h hw.fin).1 h0), fun i hi => GP ((h hw.fin).2 i hi) hw fun a' w' H' hw' hk => Bz hQ f _ _ a' H' w' hk.2 hw'⟩
theorem Dj {ops : Array Oper} {QA : Act → Heap → Prop} : ∀ (f : Nat) (listed : Array Bool) (dz pend' : List Pd) (a : Act) (H : Heap), (∀ p ∈ pend', p ∈ dz) →
    dwp P ops QA f listed dz a H → dwp P ops QA f listed pend' a H
  | 0, _, _, _, _, _, _, h => h
  | f + 1, listed, dz, pend', a, H, hs, h => by
    have hs' : ∀ i, ∀ p ∈ Pd.after ops i pend', p ∈ Pd.after ops i dz := fun i p hp => by
      unfold Pd.after at *; rw [List.mem_filter] at *; exact ⟨hs p hp.1, hp.2⟩
    exact fun hF => ⟨(h hF).1, fun i hi => Ab ((h hF).2 i hi) fun a' H' hk => ⟨fun p hp => hk.1 p (hs' i p hp), Dj f _ _ _ a' H' (hs' i) hk.2⟩⟩
theorem CW {ops : Array Oper} {QA : Act → Heap → Prop} (k : Nat) : ∀ (f : Nat) (listed : Array Bool) (dz : List Pd) (a : Act) (H : Heap),
    dwp P ops QA f listed dz a H → dwp P ops QA f listed (⟨k, fun _ => True⟩ :: dz) a H
  | 0, _, _, _, _, h => h
  | f + 1, listed, dz, a, H, h => by
    refine fun hF => ⟨(h hF).1, fun i hi => Ab ((h hF).2 i hi) fun a' H' hk => ?_⟩
    by_cases hr : reach ops ops.size i k = true
    · have e : Pd.after ops i (⟨k, fun _ => True⟩ :: dz) = Pd.after ops i dz := by unfold Pd.after; rw [List.filter_cons_of_neg (by simp [hr])]
      rw [e]; exact hk
    · have e : Pd.after ops i (⟨k, fun _ => True⟩ :: dz) = ⟨k, fun _ => True⟩ :: Pd.after ops i dz := by unfold Pd.after; rw [List.filter_cons_of_pos (by simp [hr])]
      rw [e]
      refine ⟨fun p hp => ?_, CW k f _ _ a' H' hk.2⟩
      rcases List.mem_cons.1 hp with h1 | h1
      · rw [h1]; trivial
      · exact hk.1 p h1
def qk (ops : Array Oper) (listed : Array Bool) : Prop :=
  ∀ j oj, ops[j]? = some oj → listed.getD j false = true → ∀ e ∈ oj.after, Region.binds .any e = true → listed.getD e.on false = true
theorem qk.set {ops : Array Oper} {listed : Array Bool} {i : Nat} (h : qk ops listed) (hi : i ∈ Region.ready .any ops listed) : qk ops (listed.setIfInBounds i true) := by
  intro j oj hj hl e he hb
  obtain ⟨_, oi, hoi, hall⟩ := mem_ready.1 hi
  by_cases hij : i = j
  · subst hij
    have : oj = oi := Option.some.inj (hj.symm.trans hoi)
    subst this
    exact getD_set_true (hall e he hb)
  · rw [getD_set_ne false hij] at hl
    exact getD_set_true (h j oj hj hl e he hb)
theorem AQ {ops : Array Oper} {listed : Array Bool} (h : qk ops listed) {j : Nat} (hl : listed.getD j false = true) : ∀ x ∈ behind ops j, listed.getD x false = true := by
  intro x hx
  unfold behind at hx
  split at hx
  · rename_i o ho
    obtain ⟨e, he, rfl⟩ := List.mem_map.1 hx
    obtain ⟨h1, h2⟩ := List.mem_filter.1 he
    exact h j o ho hl e (Array.mem_toList_iff.1 h1) h2
  · cases hx
theorem uP {ops : Array Oper} {listed : Array Bool} (h : qk ops listed) : ∀ (f : Nat) (w seen : List Nat), (∀ x ∈ w, listed.getD x false = true) → (∀ x ∈ seen, listed.getD x false = true) → ∀ x ∈ ancs ops f w seen, listed.getD x false = true
  | 0, _, _, _, hs, x, hx => hs x hx
  | _ + 1, [], _, _, hs, x, hx => hs x hx
  | f + 1, y :: w, seen, hw, hs, x, hx => by
    unfold ancs at hx
    cases hc : seen.any (Nat.beq y) with
    | true =>
      rw [hc] at hx
      exact uP h f w seen (fun z hz => hw z (List.mem_cons_of_mem _ hz)) hs x hx
    | false =>
      rw [hc] at hx
      refine uP h f _ _ (fun z hz => ?_) (fun z hz => ?_) x hx
      · rcases List.mem_append.1 hz with hz | hz
        · exact AQ h (hw y List.mem_cons_self) z hz
        · exact hw z (List.mem_cons_of_mem _ hz)
      · rcases List.mem_cons.1 hz with rfl | hz
        · exact hw _ List.mem_cons_self
        · exact hs z hz
theorem zf {ops : Array Oper} {listed : Array Bool} (h : qk ops listed) {j i : Nat} (hj : j ∈ Region.ready .any ops listed) (f : Nat) (hr : reach ops f j i = true) : listed.getD i false = true := by
  obtain ⟨_, oj, hoj, hall⟩ := mem_ready.1 hj
  unfold reach at hr
  obtain ⟨x, hx, hb⟩ := List.any_eq_true.1 hr
  have e := Nat.eq_of_beq_eq_true hb
  subst e
  refine uP h _ _ _ (fun z hz => ?_) (fun z hz => by cases hz) _ hx
  unfold behind at hz
  rw [hoj] at hz
  obtain ⟨e, he, rfl⟩ := List.mem_map.1 hz
  obtain ⟨h1, h2⟩ := List.mem_filter.1 he
  exact hall e (Array.mem_toList_iff.1 h1) h2
theorem oz {listed : Array Bool} {i : Nat} (h : listed.getD i true = false) : listed.getD i false = false := by
  rcases Nat.lt_or_ge i listed.size with h' | h'
  · simp [h'] at h ⊢; exact h
  · simp [Array.getElem?_eq_none h'] at h
/-- In frame a operation o yields v wherever St, and turns nothing. -/
def ma (P : Program) (ops : Array Oper) (o : Oper) (v : Value) (St : Heap → Prop) (a : Act) : Prop :=
  (Region.wanted o (yielded ops a.tmps) = true ∧ ∀ H, St H → cq P (execOp a.eval o) H (fun n => nextL P n H v)) ∨ (Region.wanted o (yielded ops a.tmps) = false ∧ v = undef)
theorem ma.put {ops : Array Oper} {oi oj : Oper} {v : Value} {St : Heap → Prop} {a : Act} (h : ma P ops oi v St a) (hsi : ∀ cs b, oi.op ≠ .select cs b)
    (h3 : ∀ d, oj.dst = some d → d ∉ oi.looksAt ops) (u : Value) : ma P ops oi v St (a.put oj.dst u) := by
  unfold ma at *
  rw [execOp_put oi hsi a oj.dst u h3, wanted_put oi a oj.dst u h3]
  exact h
theorem ma.aOp {ops : Array Oper} {i : Nat} {oi : Oper} {v : Value} {St : Heap → Prop} {a : Act} {H : Heap} {K : Act → Heap → Prop} (hi : ops[i]? = some oi) (hs : ma P ops oi v St a) (hSt : St H)
    (h : K (a.put oi.dst v) H) : Go.Fw.aOp P ops i K a H := by
  unfold Go.Fw.aOp
  simp only [hi]
  rcases hs with ⟨hw, hv⟩ | ⟨hw, rfl⟩
  · rw [if_pos hw]
    refine iY _ (jy _ (hv H hSt)) fun n H' ⟨hn, hH⟩ => ?_
    subst hH
    exact kR hn h
  · rw [if_neg (by rw [hw]; decide)]; exact h
theorem KS {ops : Array Oper} {j : Nat} {oi oj : Oper} {v : Value} (hj : ops[j]? = some oj) (hap : oi.apart ops oj = true) (hsi : ∀ cs b, oi.op ≠ .select cs b) (hsj : ∀ cs b, oj.op ≠ .select cs b)
    {K : Act → Heap → Prop} {a : Act} {H : Heap} {St : Heap → Prop} (hy : ma P ops oi v St a) (h : aOp P ops j K (a.put oi.dst v) H) :
    aOp P ops j (fun a' H' => ma P ops oi v St a' ∧ K (a'.put oi.dst v) H') a H := by
  obtain ⟨h1, h2, h3⟩ := Oper.apart_spec hap
  unfold aOp at *
  simp only [hj] at *
  rw [wanted_put oj a oi.dst v h1] at h
  split
  · rename_i hw
    rw [if_pos hw] at h
    unfold uV at *
    rw [execOp_put oj hsj a oi.dst v h1] at h
    exact iY _ h fun n H' hn => oJ hn fun u H'' hk => ⟨hy.put hsi h3 u, by rw [← Act.put_comm a v u h2]; exact hk⟩
  · rename_i hw
    rw [if_neg hw] at h
    exact ⟨hy.put hsi h3 _, by rw [← Act.put_comm a v undef h2]; exact h⟩
theorem Df {ops : Array Oper} {QA : Act → Heap → Prop} {i : Nat} {oi : Oper} {v : Value} {St : Heap → Prop} (hi : ops[i]? = some oi) (hsel : ∀ (j : Nat) (o : Oper) cs b, ops[j]? = some o → o.op ≠ .select cs b) :
    ∀ (f : Nat) (listed : Array Bool) (dz : List Pd) (a : Act) (H : Heap), qk ops listed →
      (∀ j oj, ops[j]? = some oj → j ≠ i → listed.getD j true = false → (∀ e ∈ oj.after, Region.binds .any e = true → e.on ≠ i) → oi.apart ops oj = true) →
      i ∈ Region.ready .any ops listed → ma P ops oi v St a → St H → (∀ p ∈ dz, p.St H) →
      dwp P ops QA f (listed.setIfInBounds i true) (⟨i, St⟩ :: dz) (a.put oi.dst v) H → dwp P ops QA (f + 1) listed dz a H := by
  intro f
  induction f with
  | zero =>
    intro listed dz a H _ _ hr hy hSt hp h
    refine fun _ => ⟨fun e => (by rw [e] at hr; cases hr), fun j hj => ?_⟩
    by_cases hji : j = i
    · subst hji
      exact hy.aOp hi hSt ⟨fun p hm => hp p (List.mem_filter.1 hm).1, h.1, h.2⟩
    · have := ready_mono hj hji
      rw [h.1] at this; cases this
  | succ f ih =>
    intro listed dz a H hc hfree hr hy hSt hp h
    refine fun hF => ⟨fun e => (by rw [e] at hr; cases hr), fun j hj => ?_⟩
    by_cases hji : j = i
    · subst hji
      refine hy.aOp hi hSt ⟨fun p hm => hp p (List.mem_filter.1 hm).1, Dj _ _ _ _ _ _ (fun p hm => List.mem_cons_of_mem _ (List.mem_filter.1 hm).1) h⟩
    · have h1 := (h hF).2 j (ready_mono hj hji)
      obtain ⟨hjun, oj, hoj, hall⟩ := mem_ready.1 hj
      have hiun : listed.getD i false = false := oz (mem_ready.1 hr).1
      have hnr : reach ops ops.size j i = false := by
        cases hx : reach ops ops.size j i with
        | false => rfl
        | true => have := zf hc hj _ hx; rw [hiun] at this; cases this
      have hnot : ∀ e ∈ oj.after, Region.binds .any e = true → e.on ≠ i := fun e he hb heq => by
        have h1 := hall e he hb
        rw [heq, hiun] at h1; cases h1
      have h2 := KS hoj (hfree j oj hoj hji hjun hnot) (fun cs b => hsel i oi cs b hi) (fun cs b => hsel j oj cs b hoj) hy h1
      have hfree' : ∀ k ok, ops[k]? = some ok → k ≠ i → (listed.setIfInBounds j true).getD k true = false →
          (∀ e ∈ ok.after, Region.binds .any e = true → e.on ≠ i) → oi.apart ops ok = true := fun k ok hk hki hun hno => by
        refine hfree k ok hk hki ?_ hno
        by_cases hjk : j = k
        · subst hjk; exact hjun
        · rw [getD_set_ne true hjk] at hun; exact hun
      have e1 : Pd.after ops j (⟨i, St⟩ :: dz) = ⟨i, St⟩ :: Pd.after ops j dz := by unfold Pd.after; rw [List.filter_cons_of_pos (by simp [hnr])]
      rw [e1] at h2
      refine Ab h2 fun a' H' ⟨hy', hob, h3⟩ => ⟨fun p hm => hob p (List.mem_cons_of_mem _ hm), ?_⟩
      refine ih (listed.setIfInBounds j true) (Pd.after ops j dz) a' H' (hc.set hj) hfree' (ready_mono hr (Ne.symm hji)) hy' (hob ⟨i, St⟩ List.mem_cons_self) (fun p hm => hob p (List.mem_cons_of_mem _ hm)) ?_
      rw [Array.setIfInBounds_comm _ _ hji]
      exact h3
theorem vI {ops : Array Oper} {QA : Act → Heap → Prop} {i : Nat} {oi : Oper} {v : Value} (hi : ops[i]? = some oi) (hsel : ∀ (j : Nat) (o : Oper) cs b, ops[j]? = some o → o.op ≠ .select cs b)
    (f : Nat) (listed : Array Bool) (dz : List Pd) (a : Act) (H : Heap) (hc : qk ops listed) (hfree : Region.free .any ops listed i = true)
    (hr : i ∈ Region.ready .any ops listed) (hy : ma P ops oi v (fun _ => True) a) (hp : ∀ p ∈ dz, p.St H)
    (h : dwp P ops QA f (listed.setIfInBounds i true) dz (a.put oi.dst v) H) : dwp P ops QA (f + 1) listed dz a H :=
  Df hi hsel f listed dz a H hc (Region.free_spec hi hfree) hr hy trivial hp (CW i f _ _ _ _ h)
def Gq (P : Program) {α : Type} : Sem α → α → Prop
  | .pure u, v => u = v
  | .program k, v => Gq P (k P) v
  | .mark _ k, v => Gq P k v
  | _, _ => False
def HlA (P : Program) {α : Type} : Sem α → Prop
  | .pure _ => True
  | .program k => HlA P (k P)
  | .mark _ k => HlA P k
  | .choose _ k => ∀ n, AV P (k n)
  | .halt _ => True
  | .new _ k => ∀ b, ∃ v, Gq P (k b) v
  | _ => False
theorem Di {P : Program} (s : Sem Value) : ∀ {v : Value}, Gq P s v → amade P (s.bind fun x => Sem.pure (Next.value x)) v := by
  induction s with
  | pure a => intro v h; exact h
  | program k ih => intro v h; exact ih P h
  | mark m k ih => intro v h; exact ih h
  | _ => intro v h; exact h.elim
theorem HA {P : Program} (s : Sem Value) : HlA P s → Hl P (s.bind fun x => Sem.pure (Next.value x)) := by
  induction s with
  | pure a => intro _; exact ⟨a, rfl⟩
  | program k ih => intro h; exact ih P h
  | mark m k ih => intro h; exact ih h
  | choose q k ih => intro h n; exact vo _ _ (h n)
  | halt x => intro _; trivial
  | new o k ih => intro h b; obtain ⟨v, hv⟩ := h b; exact ⟨v, Di _ hv⟩
  | _ => intro h; exact h.elim
theorem oI {P : Program} {α β : Type} (s : Sem α) (k : α → Sem β) : NoH P s → (∀ a, HlA P (k a)) → HlA P (s.bind k) := by
  induction s with
  | pure a => intro _ hk; exact hk a
  | program j ih => intro h hk; exact ih P h hk
  | mark m j ih => intro h hk; exact ih h hk
  | halt x => intro _ _; trivial
  | _ => intro h; exact h.elim
theorem zJ {P : Program} {α : Type} (s : Sem α) : AV P s → HlA P s := by
  induction s with
  | program j ih => intro h; exact ih P h
  | mark m j ih => intro h; exact ih h
  | choose q j ih => intro h n; exact h n
  | halt x => intro _; trivial
  | _ => intro h; exact h.elim
theorem DF {P : Program} (n : Nat) : NoH P (askRoom n) := by
  unfold askRoom; split <;> trivial
theorem AR {P : Program} (t : TypeId) (l c : Value) : HlA P (Instr.makeSlice t l c) := by
  unfold Instr.makeSlice
  refine oI _ _ (noh_underlying t) fun d => ?_
  split
  · refine oI _ _ (BA _) fun len => ?_
    refine oI _ _ (BA _) fun cap => ?_
    refine oI _ _ (noh_typeInfo _) fun i => ?_
    dsimp only
    split
    · split
      · exact zJ _ (vo _ _ (sW _))
      · split
        · exact zJ _ (vo _ _ (sW _))
        · exact zJ _ (fun n => by first | exact sW _ | exact vo _ _ (sW _))
    · refine oI _ _ (DF _) fun _ => ?_
      refine oI _ _ (Ew _) fun sz => ?_
      split
      · exact fun b => ⟨_, rfl⟩
      · refine oI _ _ ?_ fun z => ?_
        · exact AT _
        · exact fun b => ⟨_, rfl⟩
  · trivial
theorem D8 {P : Program} {o : Oper} (ρ : Operand → Value) (h : makerOp o = true) : Hl P (execOp ρ o) := by
  unfold makerOp at h
  simp only [Bool.and_eq_true] at h
  obtain ⟨_, h⟩ := h
  split at h <;> try cases h
  all_goals rename_i hop
  all_goals unfold execOp
  all_goals rw [hop]
  · exact ⟨_, rfl⟩
  · exact ⟨_, rfl⟩
  · exact fun b => ⟨_, rfl⟩
  · exact fun b => ⟨_, rfl⟩
  · rename_i t l c
    show Hl P ((Instr.makeSlice t (ρ l) (ρ c)).bind fun x => Sem.pure (Next.value x))
    exact HA _ (AR t _ _)
theorem HZ {ops : Array Oper} {QA : Act → Heap → Prop} {i : Nat} {oi : Oper} {ob : Obj} {val : Nat → Value} (hi : ops[i]? = some oi) (hsel : ∀ (j : Nat) (o : Oper) cs b, ops[j]? = some o → o.op ≠ .select cs b) (hg : oi.guard = none) :
    ∀ (f : Nat) (listed : Array Bool) (dz : List Pd) (a : Act) (H : Heap), qk ops listed →
      (∀ j oj, ops[j]? = some oj → j ≠ i → listed.getD j true = false → (∀ e ∈ oj.after, Region.binds .any e = true → e.on ≠ i) → oi.apart ops oj = true) →
      i ∈ Region.ready .any ops listed → amake P (execOp a.eval oi) ob val →
      (∀ p ∈ dz, reach ops ops.size i p.i = true) →
      (∀ j oj, ops[j]? = some oj → j ≠ i → listed.getD j true = false → reach ops ops.size j i = false → makerOp oj = true ∧ ∀ p ∈ dz, reach ops ops.size j p.i = true) →
      (∀ b, H b = none → dwp P ops QA f (listed.setIfInBounds i true) [] (a.put oi.dst (val b)) (H.set b ob)) → dwp P ops QA (f + 1) listed dz a H := by
  have nil_after : ∀ (j : Nat) (dz : List Pd), (∀ p ∈ dz, reach ops ops.size j p.i = true) → Pd.after ops j dz = [] := fun j dz h => by
    unfold Pd.after; rw [List.filter_eq_nil_iff]; intro p hp; simp [h p hp]
  have first : ∀ (f : Nat) (listed : Array Bool) (dz : List Pd) (a : Act) (H : Heap), amake P (execOp a.eval oi) ob val → (∀ p ∈ dz, reach ops ops.size i p.i = true) →
      (∀ b, H b = none → dwp P ops QA f (listed.setIfInBounds i true) [] (a.put oi.dst (val b)) (H.set b ob)) →
      aOp P ops i (fun a' H' => (∀ p ∈ Pd.after ops i dz, p.St H') ∧ dwp P ops QA f (listed.setIfInBounds i true) (Pd.after ops i dz) a' H') a H := fun f listed dz a H hm hp h => by
    unfold aOp
    simp only [hi]
    rw [if_pos (by simp [Region.wanted, hg])]
    rw [nil_after i dz hp]
    exact qs _ hm fun b hb => ⟨fun p hp' => by (cases hp'), h b hb⟩
  intro f
  induction f with
  | zero =>
    intro listed dz a H _ _ hr hm hp _ h
    refine fun hF => ⟨fun e => (by rw [e] at hr; cases hr), fun j hj => ?_⟩
    by_cases hji : j = i
    · subst hji; exact first 0 listed dz a H hm hp h
    · have := ready_mono hj hji
      obtain ⟨N, hN⟩ := hF
      rw [(h N (hN N (Nat.le_refl _))).1] at this; cases this
  | succ f ih =>
    intro listed dz a H hc hfree hr hm hp hhl h
    refine fun hF => ⟨fun e => (by rw [e] at hr; cases hr), fun j hj => ?_⟩
    by_cases hji : j = i
    · subst hji; exact first (f + 1) listed dz a H hm hp h
    · obtain ⟨hjun, oj, hoj, hall⟩ := mem_ready.1 hj
      have hiun : listed.getD i false = false := oz (mem_ready.1 hr).1
      have hnr : reach ops ops.size j i = false := by
        cases hx : reach ops ops.size j i with
        | false => rfl
        | true => have := zf hc hj _ hx; rw [hiun] at this; cases this
      obtain ⟨hmk, hpj⟩ := hhl j oj hoj hji hjun hnr
      have hgj : oj.guard = none := by
        unfold makerOp at hmk
        simp only [Bool.and_eq_true, Option.isNone_iff_eq_none] at hmk
        exact hmk.1
      have hnot : ∀ e ∈ oj.after, Region.binds .any e = true → e.on ≠ i := fun e he hb heq => by
        have h1 := hall e he hb
        rw [heq, hiun] at h1; cases h1
      have hap := hfree j oj hoj hji hjun hnot
      obtain ⟨h1, h2, h3⟩ := Oper.apart_spec hap
      have hnil := nil_after j dz hpj
      have run : ∀ b, H b = none → uV P oj a (H.set b ob) (fun v H' => dwp P ops QA f ((listed.setIfInBounds i true).setIfInBounds j true) [] ((a.put oi.dst (val b)).put oj.dst v) H') := fun b hb => by
        have hx := (h b hb (hF.set b ob)).2 j (ready_mono hj hji)
        unfold aOp at hx
        simp only [hoj] at hx
        rw [if_pos (by simp [Region.wanted, hgj])] at hx
        unfold uV at hx ⊢
        rw [execOp_put oj (fun cs b => hsel j oj cs b hoj) a oi.dst (val b) h1] at hx
        exact iY _ hx fun n H' hn => oJ hn fun v H'' hk => hk.2
      have hfree' : ∀ k ok, ops[k]? = some ok → k ≠ i → (listed.setIfInBounds j true).getD k true = false →
          (∀ e ∈ ok.after, Region.binds .any e = true → e.on ≠ i) → oi.apart ops ok = true := fun k ok hk hki hun hno => by
        refine hfree k ok hk hki ?_ hno
        by_cases hjk : j = k
        · subst hjk; exact hjun
        · rw [getD_set_ne true hjk] at hun; exact hun
      have hhl' : ∀ k ok, ops[k]? = some ok → k ≠ i → (listed.setIfInBounds j true).getD k true = false → reach ops ops.size k i = false → makerOp ok = true ∧ ∀ p ∈ ([] : List Pd), reach ops ops.size k p.i = true := fun k ok hk hki hun hnr' => by
        refine ⟨(hhl k ok hk hki ?_ hnr').1, fun p hp => by cases hp⟩
        by_cases hjk : j = k
        · subst hjk; exact hjun
        · rw [getD_set_ne true hjk] at hun; exact hun
      have hm' : ∀ u, amake P (execOp (a.put oj.dst u).eval oi) ob val := fun u => by rw [execOp_put oi (fun cs b => hsel i oi cs b hi) a oj.dst u h3]; exact hm
      obtain ⟨N, hN⟩ := hF
      have hform := Lb _ (D8 (P := P) a.eval hmk) (run N (hN N (Nat.le_refl _)))
      have goal : uV P oj a H (fun v H' => (∀ p ∈ Pd.after ops j dz, p.St H') ∧ dwp P ops QA (f + 1) (listed.setIfInBounds j true) (Pd.after ops j dz) (a.put oj.dst v) H') := by
        rw [hnil]
        rcases hform with ⟨v, hv⟩ | ⟨oo, vv, hv⟩
        · refine vU _ hv ⟨fun p hp => by (cases hp), ?_⟩
          refine ih (listed.setIfInBounds j true) [] (a.put oj.dst v) H (hc.set hj) hfree' (ready_mono hr (Ne.symm hji)) (hm' v) (fun p hp => by cases hp) hhl' fun b hb => ?_
          have := Ah _ hv (run b hb)
          rw [Array.setIfInBounds_comm _ _ hji, ← Act.put_comm a (val b) v h2]
          exact this
        · refine qs _ hv fun bj hbj => ⟨fun p hp => by (cases hp), ?_⟩
          refine ih (listed.setIfInBounds j true) [] (a.put oj.dst (vv bj)) (H.set bj oo) (hc.set hj) hfree' (ready_mono hr (Ne.symm hji)) (hm' _) (fun p hp => by cases hp) hhl' fun b hb => ?_
          have hne : b ≠ bj := fun e => by subst e; simp [Heap.set] at hb
          have hb' : H b = none := by unfold Heap.set at hb; rwa [if_neg hne] at hb
          have hbj' : (H.set b ob) bj = none := by unfold Heap.set; rw [if_neg (fun e => hne e.symm)]; exact hbj
          have := Ez _ hv (run b hb') bj hbj'
          have hcomm : (H.set bj oo).set b ob = (H.set b ob).set bj oo := by
            funext c
            unfold Heap.set
            by_cases h1 : c = b
            · rw [if_pos h1, if_neg (fun e => hne (h1.symm.trans e)), if_pos h1]
            · rw [if_neg h1, if_neg h1]
          rw [Array.setIfInBounds_comm _ _ hji, ← Act.put_comm a (val b) (vv bj) h2, hcomm]
          exact this
      unfold aOp
      simp only [hoj]
      rw [if_pos (by simp [Region.wanted, hgj])]
      exact goal
def CB (P : Program) (p : w5) : Pd := ⟨p.i, fun H => cq P p.s H (fun n => nextL P n H p.v)⟩
theorem HS (ops : Array Oper) (j : Nat) (l : List w5) : Pd.after ops j (l.map (CB P)) = (w5.after ops j l).map (CB P) := by
  unfold Pd.after w5.after
  rw [List.filter_map]
  rfl
theorem A3 {L : aZ} {H : Heap} {R : Value → Heap → Prop} {t : Tree} : ∀ {l : List w5}, wp P (EW l t) L H R → (∀ p ∈ l.map (CB P), p.St H) ∧ wp P t L H R
  | [], h => ⟨fun p hp => by simp at hp, h⟩
  | p :: l, h => by
    obtain ⟨h1, h2⟩ := h
    obtain ⟨h3, h4⟩ := A3 h2
    refine ⟨fun q hq => ?_, h4⟩
    rcases List.mem_cons.1 hq with e | e
    · rw [e]; exact h1
    · exact h3 q e
theorem kO {ops : Array Oper} {listed : Array Bool} {k i : Nat} : ∀ {l : List Nat}, lV P cfg ops listed k l = some i → i ∈ l ∧ ∃ o, ops[i]? = some o ∧ tag P cfg o = k ∧ Region.free .any ops listed i = true
  | [], h => by simp [lV] at h
  | j :: l, h => by
    unfold lV at h
    split at h
    · rename_i o ho
      split at h
      · rename_i hc
        simp only [Bool.and_eq_true, beq_iff_eq] at hc
        simp only [Option.some.injEq] at h
        subst h
        exact ⟨List.mem_cons_self, o, ho, hc.1, hc.2⟩
      · obtain ⟨h1, h2⟩ := kO h; exact ⟨List.mem_cons_of_mem _ h1, h2⟩
    · obtain ⟨h1, h2⟩ := kO h; exact ⟨List.mem_cons_of_mem _ h1, h2⟩
theorem Ai {L : aZ} {H : Heap} {R : Value → Heap → Prop} : ∀ {l : List Tree}, wp P (Cc l) L H R → ∀ t ∈ l, wp P t L H R
  | [], h, _, _ => h.elim
  | [t], h, u, hu => by rw [List.mem_singleton.1 hu]; exact h
  | t :: u :: l, h, x, hx => by
    rcases List.mem_cons.1 hx with e | e
    · rw [e]; exact h.1
    · exact Ai (l := u :: l) h.2 x e
theorem yH {ops : Array Oper} {o : Oper} {fr : Fr} {K : Fr → Tree} {L : aZ} {H : Heap} {R : Value → Heap → Prop} {a : Act}
    (hf : gM fr a) (ht : tag P cfg o = 0 ∨ tag P cfg o = 1) (h : wp P (oneOp P cfg ops o fr K) L H R) :
    ∃ v fr', gM fr' (a.put o.dst v) ∧ wp P (K fr') L H R ∧
      ((Region.wanted o (yielded ops a.tmps) = true ∧ cq P (execOp a.eval o) H (fun n => nextL P n H v) ∧
          (tag P cfg o = 0 → ∀ H', cq P (execOp a.eval o) H' (fun n => nextL P n H' v)) ∧ (tag P cfg o = 1 → ∃ fr1, gM fr1 a ∧ fr' = fr1.put o.dst v ∧ execOp a.eval o = execOp fr1.ev o)) ∨
       (Region.wanted o (yielded ops a.tmps) = false ∧ v = undef)) := by
  rcases yS hf h with ⟨hwt, fr1, hf1, h1⟩ | ⟨hwt, fr1, hf1, h1⟩
  · obtain ⟨v, hv, hk, h0, he⟩ := Fl hf1 ht h1
    exact ⟨v, _, hf1.put _ _, hk, .inl ⟨hwt, hv, h0, fun h => ⟨fr1, hf1, rfl, he h⟩⟩⟩
  · exact ⟨undef, fr1, hf1, h1, .inr ⟨hwt, rfl⟩⟩
theorem yB {ops : Array Oper} (hns : Region.noSelect ops = true) {i : Nat} {o : Oper} (ho : ops[i]? = some o) : Op.isSelect o.op = false := by
  cases hx : Op.isSelect o.op with
  | false => rfl
  | true =>
    exfalso
    unfold Op.isSelect at hx
    split at hx
    · rename_i cs b h1; exact Region.noSelect_spec hns i o cs b ho h1
    · cases hx
/-- The frame has turned at the region's own slots alone. -/
def GG (ops : Array Oper) (a0 a : Act) : Prop := a.defers = a0.defers ∧ jn (ops.toList.filterMap (·.dst)) a a0
theorem GG.put {ops : Array Oper} {a0 a : Act} (h : GG ops a0 a) {i : Nat} {o : Oper} (ho : ops[i]? = some o) (v : Value) : GG ops a0 (a.put o.dst v) :=
  ⟨by rw [put_defers]; exact h.1, jn.trans ⟨Dv _ _ _, fun j hj => Bb fun e => hj (by
    rw [List.mem_filterMap]; exact ⟨o, Array.mem_toList_iff.2 (Array.mem_of_getElem? ho), e⟩)⟩ h.2⟩
theorem Dn {ops : Array Oper} {o : Oper} {fr : Fr} {a : Act} {x : Bool} (hf : gM fr a) (h : wZ ops o fr = some x) : Region.wanted o (yielded ops a.tmps) = x := by
  unfold wZ at h
  split at h
  · rename_i hg
    simp only [Option.some.injEq] at h; subst h
    simp [Region.wanted, hg]
  · rename_i j want hg
    split at h
    · cases h
    · rename_i t ht
      split at h
      · rename_i b hb
        simp only [Option.some.injEq] at h; subst h
        simp only [Region.wanted, hg, w6 ht (hf.get hb)]
        cases b <;> cases want <;> rfl
      · rename_i vs hb
        simp only [Option.some.injEq] at h; subst h
        simp only [Region.wanted, hg, vH ht (hf.get hb)]
        cases want <;> rfl
      · cases h
theorem iw {a0 : Act} {ops : Array Oper} (hns : Region.noSelect ops = true) {K : Fr → Tree} {L : aZ} {R : Value → Heap → Prop} : ∀ (f : Nat) (listed : Array Bool) (dz : List w5) (fr : Fr) (a : Act) (H : Heap),
    gM fr a → GG ops a0 a → qk ops listed → (∀ p ∈ dz.map (CB P), p.St H) → wp P (drawFrom P cfg ops f listed dz fr K) L H R →
    dwp P ops (fun a' H' => ∃ fr', gM fr' a' ∧ GG ops a0 a' ∧ wp P (K fr') L H' R) f listed (dz.map (CB P)) a H
  | 0, listed, dz, fr, a, H, hf, hm, _, _, h => by
    unfold drawFrom at h
    split at h
    · rename_i he; exact ⟨he, fr, hf, hm, h⟩
    · exact h.elim
  | f + 1, listed, dz, fr, a, H, hf, hm, hc, hp, h => by
    unfold drawFrom at h
    dsimp only at h
    split at h
    · rename_i he
      exact fun _ => ⟨fun _ => ⟨fr, hf, hm, h⟩, fun i hi => by rw [he] at hi; cases hi⟩
    · rename_i hne
      split at h
      · rename_i i hi
        obtain ⟨hr, o, ho, ht, hfree⟩ := kO hi
        simp only [ho] at h
        obtain ⟨v, fr', hf', hk, hc'⟩ := yH hf (.inl ht) h
        refine vI ho (Region.noSelect_spec hns) f listed _ a H hc hfree hr (v := v) ?_ hp (iw hns f _ dz fr' _ H hf' (hm.put ho _) (hc.set hr) hp hk)
        rcases hc' with ⟨hw, _, h0, _⟩ | ⟨hw, hv⟩
        · exact .inl ⟨hw, fun H' _ => h0 ht H'⟩
        · exact .inr ⟨hw, hv⟩
      · split at h
        · rename_i i hi
          obtain ⟨hr, o, ho, ht, hfree⟩ := kO hi
          simp only [ho] at h
          obtain ⟨v, fr', hf', hk, hc'⟩ := yH hf (.inr ht) h
          have hw1 : ∀ x, wZ ops o fr' = some x → (∀ d, o.dst = some d → d ∉ o.looksAt ops) → Region.wanted o (yielded ops a.tmps) = x := fun x hx hnl => by
            have h1 := Dn hf' hx
            rwa [wanted_put o a o.dst v hnl] at h1
          split at hk
          · rename_i hwa
            split at hk
            · rename_i d hd
              split at hk
              · rename_i v' hv'
                split at hk
                · rename_i hchk
                  simp only [Bool.and_eq_true, Bool.not_eq_true', List.contains_eq_mem, decide_eq_false_iff_not] at hchk
                  obtain ⟨hnl, hall⟩ := hchk
                  have hlk : ∀ d', o.dst = some d' → d' ∉ o.looksAt ops := fun d' hd' => by rw [hd] at hd'; cases hd'; exact hnl
                  have hvv : v = v' := by
                    have h1 := hf'.get hv'
                    rw [hd] at h1
                    simp only [Act.put, Array.getElem?_setIfInBounds] at h1
                    split at h1
                    · split at h1
                      · exact Option.some.inj h1
                      · cases h1
                    · rename_i hne'; exact absurd trivial hne'
                  subst hvv
                  have hex : execOp a.eval o = execOp fr'.ev o := by
                    rw [← sk hf' (yB hns ho) hall, execOp_put o (A4 (yB hns ho)) a o.dst v hlk]
                  have hwt := hw1 true hwa hlk
                  have hst : cq P (nf P (execOp fr'.ev o)) H (fun n => nextL P n H v) := by
                    rcases hc' with ⟨_, h0, _⟩ | ⟨h0, _⟩
                    · rw [hex] at h0; exact Ba _ h0
                    · rw [hwt] at h0; cases h0
                  refine Df ho (Region.noSelect_spec hns) f listed _ a H hc (Region.free_spec ho hfree) hr (v := v) (St := (CB P ⟨i, nf P (execOp fr'.ev o), v⟩).St) ?_ hst hp ?_
                  · exact .inl ⟨hwt, fun H' hH' => by rw [hex]; exact xB _ hH'⟩
                  · refine iw hns f _ (⟨i, nf P (execOp fr'.ev o), v⟩ :: dz) fr' _ H hf' (hm.put ho _) (hc.set hr) (fun p hp' => ?_) hk
                    rcases List.mem_cons.1 hp' with e | e
                    · rw [e]; exact hst
                    · exact hp p e
                · exact hk.elim
              · exact hk.elim
            · exact hk.elim
          · rename_i hwa
            split at hk
            · rename_i hchk
              have hlk : ∀ d, o.dst = some d → d ∉ o.looksAt ops := fun d hd => by
                unfold FY at hchk
                rw [hd] at hchk
                simpa using hchk
              have hwf := hw1 false hwa hlk
              rcases hc' with ⟨hwt, _⟩ | ⟨hwt, hv⟩
              · rw [hwt] at hwf; cases hwf
              · exact vI ho (Region.noSelect_spec hns) f listed _ a H hc hfree hr (v := v) (.inr ⟨hwt, hv⟩) hp (iw hns f _ dz fr' _ H hf' (hm.put ho _) (hc.set hr) hp hk)
            · exact hk.elim
          · exact hk.elim
        · split at h
          · rename_i i hi
            have hmf := List.find?_some hi
            have hr := List.mem_of_find?_eq_some hi
            obtain ⟨_, o, ho, _⟩ := mem_ready.1 hr
            unfold Bd at hmf
            simp only [ho, Bool.and_eq_true, List.all_eq_true, List.mem_range, Bool.or_eq_true, beq_iff_eq] at hmf h
            obtain ⟨⟨⟨⟨hk, hmo⟩, hfree⟩, hpi⟩, hall⟩ := hmf
            have hg : o.guard = none := by
              unfold makerOp at hmo
              simp only [Bool.and_eq_true, Option.isNone_iff_eq_none] at hmo
              exact hmo.1
            obtain ⟨ob, val, hm', hgo⟩ := GL hf hk h
            refine HZ ho (Region.noSelect_spec hns) hg f listed _ a H hc (Region.free_spec ho hfree) hr hm' (fun p hp' => ?_) (fun j oj hoj hji hun hnr => ?_) fun b hb => ?_
            · obtain ⟨q, hq, rfl⟩ := List.mem_map.1 hp'
              exact hpi q hq
            · have hjlt : j < ops.size := (Array.getElem?_eq_some_iff.1 hoj).1
              rcases hall j hjlt with ((h1 | h1) | h1) | h1
              · exact absurd h1 hji
              · rw [hun] at h1; cases h1
              · rw [hnr] at h1; cases h1
              · simp only [hoj, Bool.and_eq_true, List.all_eq_true] at h1
                exact ⟨h1.1, fun p hp' => by obtain ⟨q, hq, rfl⟩ := List.mem_map.1 hp'; exact h1.2 q hq⟩
            · exact iw hns f _ [] _ _ _ (hf.put _ _) (hm.put ho _) (hc.set hr) (fun p hp' => by cases hp') (hgo b hb)
          refine fun _ => ⟨fun e => absurd e hne, fun i hi => ?_⟩
          obtain ⟨_, o, ho, _⟩ := mem_ready.1 hi
          have h1 := Ai h _ (List.mem_map.2 ⟨i, hi, rfl⟩)
          simp only [ho] at h1
          have h2 := AX (N := fun a' H' => (∀ p ∈ Pd.after ops i (dz.map (CB P)), p.St H') ∧
            dwp P ops (fun a' H' => ∃ fr', gM fr' a' ∧ GG ops a0 a' ∧ wp P (K fr') L H' R) f (listed.setIfInBounds i true) (Pd.after ops i (dz.map (CB P))) a' H') hf h1 (fun v fr' H' hf' hk => by
              obtain ⟨h3, h4⟩ := A3 hk
              rw [HS]
              exact ⟨h3, iw hns f _ _ fr' _ H' hf' (hm.put ho _) (hc.set hi) h3 h4⟩)
          unfold aOp
          simp only [ho]
          exact h2
theorem AA {id : Nat} {ops : Array Oper} {fr : Fr} {K : Fr → Tree} {L : aZ} {H : Heap} {R : Value → Heap → Prop} {a : Act} {w : World} {Q : Exit → Act → World → Prop}
    (hf : gM fr a) (hd : a.defers = []) (hw : dF w0 w H) (h : wp P (zI P cfg ops fr K) L H R)
    (hK : ∀ fr' a' w' H', gM fr' a' → a'.defers = [] → dF w0 w' H' → jn (ops.toList.filterMap (·.dst)) a' a → wp P (K fr') L H' R → Q .normal a' w') :
    (Code.region id ops true).wp P Q a w := by
  unfold zI at h
  split at h
  · rename_i hc
    simp only [Bool.and_eq_true] at hc
    have hd := iw (a0 := a) hc.2 (L := L) (R := R) (K := K) ops.size (Array.replicate ops.size false) [] fr a H hf ⟨rfl, jn.refl _ _⟩ (fun j oj _ hl => by
      exfalso
      rcases Nat.lt_or_ge j ops.size with h | h
      · simp [h] at hl
      · simp [h] at hl) (fun p hp => by simp at hp) h
    refine wp_region_any hc.1 (Bz (fun a' w' H' hw' ⟨fr', hf', hm, hk⟩ => hK fr' a' w' H' hf' (by rw [hm.1]; assumption) hw' hm.2 hk) _ _ _ _ H _ hd (hw.drawn _))
  · exact h.elim
theorem aZ.bx (L : aZ) (n : Nat) (C : List Value → Heap → Prop) : (L.set n C) n = C := by simp [aZ.set]
theorem aZ.dJ (L : aZ) {n m : Nat} (C : List Value → Heap → Prop) (h : m ≠ n) : (L.set n C) m = L m := by simp [aZ.set, h]
theorem uo {fr : Fr} : ∀ {is : List Nat} {vs : List Value}, fr.getAll is = some vs → is.length = vs.length ∧ ∀ (k i : Nat) v, is[k]? = some i → vs[k]? = some v → fr.get i = some v
  | [], vs, h => by
    simp only [Fr.getAll, Option.some.injEq] at h; subst h
    exact ⟨rfl, fun k i v hk => by simp at hk⟩
  | i :: is, vs, h => by
    simp only [Fr.getAll] at h
    split at h
    · rename_i v hv
      split at h
      · rename_i vs' hvs
        simp only [Option.some.injEq] at h; subst h
        obtain ⟨hl, hg⟩ := uo hvs
        refine ⟨by simp [hl], fun k j u hk hu => ?_⟩
        cases k with
        | zero => simp at hk hu; subst hk; subst hu; exact hv
        | succ k => simp at hk hu; exact hg k j u hk hu
      · cases h
    · cases h
theorem xE {a : Act} : ∀ {is : List Nat} {vs : List Value} {fr : Fr}, gM fr a → (∀ (k i : Nat) v, is[k]? = some i → vs[k]? = some v → a.tmps[i]? = some v) → gM (fr.setAll is vs) a
  | [], vs, fr, h, _ => by unfold Fr.setAll; exact h
  | i :: is, [], fr, h, _ => by unfold Fr.setAll; exact h
  | i :: is, v :: vs, fr, h, hv => by
    unfold Fr.setAll
    refine xE ?_ fun k j u hk hu => hv (k + 1) j u (by simpa using hk) (by simpa using hu)
    refine ⟨fun s hs => h.size s (Fr.vr _ _ _ _ hs), fun j u hj => ?_⟩
    rcases Fr.vp _ _ _ _ _ hj with ⟨e1, e2, e3⟩ | ⟨e1, e2⟩
    · rw [e1, ← e2]; exact hv 0 i v (by simp) (by simp)
    · exact h.val j u e2
theorem Fr.zZ : ∀ (W : List Nat) (fr : Fr) (i : Nat) (v : Value), (fr.forget W).get i = some v → i ∉ W ∧ fr.get i = some v
  | [], fr, i, v, h => ⟨by simp, h⟩
  | j :: W, fr, i, v, h => by
    obtain ⟨h1, h2⟩ := Fr.zZ W (fr.upd j none) i v h
    rcases Fr.vp _ _ _ _ _ h2 with ⟨e1, e2, e3⟩ | ⟨e1, e2⟩
    · cases e2
    · exact ⟨by simp only [List.mem_cons, not_or]; exact ⟨e1, h1⟩, e2⟩
theorem Fr.zS : ∀ (W : List Nat) (fr : Fr) (i : Nat), (fr.forget W).has i → fr.has i
  | [], fr, i, h => h
  | j :: W, fr, i, h => Fr.vr _ _ _ _ (Fr.zS W (fr.upd j none) i h)
theorem HM {fr : Fr} {a a' : Act} {W : List Nat} (h : gM fr a) (ho : jn W a' a) : gM (fr.forget W) a' := by
  refine ⟨fun s hs => by rw [ho.size]; exact h.size s (Fr.zS W fr s hs), fun i v hi => ?_⟩
  obtain ⟨h1, h2⟩ := Fr.zZ W fr i v hi
  rw [ho.val i h1]; exact h.val i v h2
/-- The code's tree is sound at fuel f. -/
def Snd (w0 : World) (P : Program) (_cfg : Cfg) (den : Code → Fr → (Ex → Fr → Tree) → Tree) : Prop :=
  ∀ (c : Code) (fr : Fr) (K : Ex → Fr → Tree) (L : aZ) (H : Heap) (R : Value → Heap → Prop) (a : Act) (w : World) (Q : Exit → Act → World → Prop),
    gM fr a → a.defers = [] → dF w0 w H → wp P (den c fr K) L H R →
    (∀ (e : Ex) fr' a' w' H' L', gM fr' a' → a'.defers = [] → dF w0 w' H' → jn (writes c) a' a → (∀ n, n ∉ names c → L' n = L n) →
      wp P (K e fr') L' H' R → Q e.xv a' w') → c.wp P Q a w
/-- Code that runs inside a scope. -/
def xu (P : Program) (c code : Code) (Q : Exit → Act → World → Prop) (a : Act) (w : World) : Prop :=
  ∀ (b : Frame) (k : List Item) (cs : List Frame), ∃ e a' w', Q e a' w' ∧ Arrives P (lone (b.at a (.code code :: .inScope c :: k)) cs w) b k cs e a' w'
theorem FB {c code : Code} {Q Q1 : Exit → Act → World → Prop} {a : Act} {w : World} (h : code.wp P Q1 a w)
    (hn : ∀ a' w', Q1 .normal a' w' → Q .normal a' w') (he : ∀ i a' w', Q1 (.exit i) a' w' → Q (.exit i) a' w') (hr : ∀ a' w', Q1 .ret a' w' → Q .ret a' w')
    (hp : ∀ ch a' w', Q1 (.panic ch) a' w' → Q (.panic ch) a' w') (ho : ∀ a' w', Q1 .outgrown a' w' → Q .outgrown a' w')
    (hg : ∀ l a' w', Q1 (.goto l) a' w' → ∃ rest, findLabel c l = some rest ∧ xu P c rest Q a' w') : xu P c code Q a w := by
  intro b k cs
  obtain ⟨e, a₁, w₁, hq, harr⟩ := h b (.inScope c :: k) cs
  cases e with
  | normal => exact ⟨.normal, a₁, w₁, hn _ _ hq, Steps.trans harr (.one step_inScope)⟩
  | exit id => exact ⟨.exit id, a₁, w₁, he _ _ _ hq, fun k' hk => harr k' (by simp [exitTo, hk])⟩
  | goto l =>
    obtain ⟨rest, hf, hin⟩ := hg _ _ _ hq
    obtain ⟨e₂, a₂, w₂, hq₂, harr₂⟩ := hin b k cs
    exact ⟨e₂, a₂, w₂, hq₂, .of_steps (harr _ (by simp [gotoIn, hf])) harr₂⟩
  | ret => exact ⟨_, a₁, w₁, hr _ _ hq, harr⟩
  | panic ch => exact ⟨_, a₁, w₁, hp _ _ _ hq, harr⟩
  | outgrown => exact ⟨_, a₁, w₁, ho _ _ hq, harr⟩
theorem AK {c : Code} {Q : Exit → Act → World → Prop} {a : Act} {w : World} (h : xu P c c Q a w) : (Code.scope c).wp P Q a w :=
  fun b k cs => let ⟨e, a', w', q, r⟩ := h b k cs; ⟨e, a', w', q, .of_steps (.one step_scope) r⟩
/-- The exits that a tree speaks of. -/
def exQ (Q : Ex → Act → World → Prop) : Exit → Act → World → Prop
  | .normal, a, w => Q .normal a w
  | .exit i, a, w => Q (.exit i) a w
  | .goto l, a, w => Q (.goto l) a w
  | .ret, a, w => Q .ret a w
  | _, _, _ => False
theorem Fi {Q : Ex → Act → World → Prop} {e : Ex} {a : Act} {w : World} (h : Q e a w) : exQ Q e.xv a w := by cases e <;> exact h
theorem pt {den : Code → Fr → (Ex → Fr → Tree) → Tree} (hden : Snd w0 P cfg den) {c : Code} {K : Ex → Fr → Tree} {L : aZ} {R : Value → Heap → Prop} {Q : Exit → Act → World → Prop} {a0 : Act} :
    ∀ (g : Nat) (code : Code) (fr : Fr) (L1 : aZ) (H : Heap) (a : Act) (w : World), gM fr a → a.defers = [] → dF w0 w H → wp P (inScopeTree den c g code fr K) L1 H R →
    jn (writes c) a a0 → (∀ n, n ∉ names c → L1 n = L n) → (∀ i, i ∈ writes code → i ∈ writes c) → (∀ i, i ∈ names code → i ∈ names c) →
    (∀ (e : Ex) fr' a' w' H' L', gM fr' a' → a'.defers = [] → dF w0 w' H' → jn (writes c) a' a0 → (∀ n, n ∉ names c → L' n = L n) →
      wp P (K e fr') L' H' R → Q e.xv a' w') → xu P c code Q a w
  | 0, _, _, _, _, _, _, _, _, _, h, _, _, _, _, _ => h.elim
  | g + 1, code, fr, L1, H, a, w, hf, hd, hw, h, hs, hL, hW, hN, hK => by
    unfold inScopeTree at h
    have h1 := hden code fr _ L1 H R a w (exQ fun e a' w' => match e with
      | .goto l => ∃ rest, findLabel c l = some rest ∧ xu P c rest Q a' w'
      | e => Q e.xv a' w') hf hd hw h (fun e fr' a' w' H' L' hf' hd' hw' hs' hL' hk => Fi (by
        have hs2 : jn (writes c) a' a0 := (hs'.mono hW).trans hs
        have hL2 : ∀ n, n ∉ names c → L' n = L n := fun n hn => by rw [hL' n (fun hm => hn (hN n hm)), hL n hn]
        cases e with
        | goto l =>
          dsimp only at hk ⊢
          split at hk
          · rename_i rest hrest
            split at hk
            · rename_i hall
              simp only [Bool.and_eq_true, List.all_eq_true, List.contains_iff_mem] at hall
              exact ⟨rest, hrest, pt hden g rest fr' L' H' a' w' hf' hd' hw' hk hs2 hL2 hall.1 hall.2 hK⟩
            · exact hk.elim
          · exact hk.elim
        | normal => exact hK .normal fr' a' w' H' L' hf' hd' hw' hs2 hL2 hk
        | exit i => exact hK (.exit i) fr' a' w' H' L' hf' hd' hw' hs2 hL2 hk
        | ret => exact hK .ret fr' a' w' H' L' hf' hd' hw' hs2 hL2 hk))
    exact FB h1 (fun _ _ hq => hq) (fun _ _ _ hq => hq) (fun _ _ hq => hq) (fun _ _ _ hq => hq.elim) (fun _ _ hq => hq.elim) (fun _ _ _ hq => hq)
/-- What a loop does, from its body's head on. -/
def Ax (P : Program) (c : Code) (Q : Exit → Act → World → Prop) (a : Act) (w : World) : Prop :=
  ∀ (b : Frame) (k : List Item) (cs : List Frame), ∃ e a' w', Q e a' w' ∧ Arrives P (lone (b.at a (.code c :: .inLoop c :: k)) cs w) b k cs e a' w'
theorem HW {c : Code} {Q : Exit → Act → World → Prop} {a : Act} {w : World} (h : c.wp P (Exit.then (Ax P c Q) Q) a w) : Ax P c Q a w := by
  intro b k cs
  obtain ⟨e, a₁, w₁, hq, harr⟩ := h b (.inLoop c :: k) cs
  cases e with
  | normal =>
    obtain ⟨e₂, a₂, w₂, hq₂, harr₂⟩ := hq b k cs
    exact ⟨e₂, a₂, w₂, hq₂, .of_steps (Steps.trans harr (.one step_inLoop)) harr₂⟩
  | exit id => exact ⟨_, a₁, w₁, hq, .pass (x := .inLoop c) rfl (fun _ _ => .inl (by simp)) harr⟩
  | goto l => exact ⟨_, a₁, w₁, hq, .pass (x := .inLoop c) rfl (fun _ _ => .inl (by simp)) harr⟩
  | ret => exact ⟨_, a₁, w₁, hq, .pass (x := .inLoop c) rfl (fun _ _ => .inl (by simp)) harr⟩
  | panic ch => exact ⟨_, a₁, w₁, hq, .pass (x := .inLoop c) rfl (fun _ _ => .inl (by simp)) harr⟩
  | outgrown => exact ⟨_, a₁, w₁, hq, .pass (x := .inLoop c) rfl (fun _ _ => .inl (by simp)) harr⟩
theorem BM {c : Code} {Q : Exit → Act → World → Prop} {a : Act} {w : World} (h : Ax P c Q a w) : (Code.loop c).wp P Q a w :=
  fun b k cs => let ⟨e, a', w', q, r⟩ := h b k cs; ⟨e, a', w', q, .of_steps (.one step_loop) r⟩
theorem uQ : ∀ f : Nat, Snd w0 P cfg (codeTree P cfg f)
  | 0 => fun _ _ _ _ _ _ _ _ _ _ _ _ h => h.elim
  | f + 1 => by
    have ih := uQ f
    intro c fr K L H R a w Q hf hd hw h hK
    unfold codeTree at h
    split at h
    · exact wp_skip (hK .normal fr a w H L hf hd hw (jn.refl _ _) (fun _ _ => rfl) h)
    · exact wp_label (hK .normal fr a w H L hf hd hw (jn.refl _ _) (fun _ _ => rfl) h)
    · rename_i id ops draw
      cases draw with
      | true =>
        exact AA (cfg := cfg) hf hd hw h fun fr' a' w' H' hf' hd' hw' hs hk => hK .normal fr' a' w' H' L hf' hd' hw' hs (fun _ _ => rfl) hk
      | false =>
        exact wp_region_list (vP _ fr H a w hf hd hw h fun fr' a' w' H' hf' hd' hw' hs hk => hK .normal fr' a' w' H' L hf' hd' hw' hs (fun _ _ => rfl) hk)
    · rename_i x y
      have h1 := ih x fr _ L H R a w (exQ fun e a' w' => match e with
        | .normal => y.wp P Q a' w'
        | e => Q e.xv a' w') hf hd hw h (fun e fr' a' w' H' L' hf' hd' hw' hs' hL' hk => Fi (by
          have hsub : jn (writes (.seq x y)) a' a := hs'.mono fun i hm => by simp only [writes, List.mem_append]; exact .inl hm
          have hnub : ∀ i, i ∉ names (.seq x y) → i ∉ names x := fun i hi hm => hi (by simp only [names, List.mem_append]; exact .inl hm)
          cases e with
          | normal =>
            exact ih y fr' K L' H' R a' w' Q hf' hd' hw' hk fun e fr2 a2 w2 H2 L2 hf2 hd2 hw2 hs2 hL2 hk2 =>
              hK e fr2 a2 w2 H2 L2 hf2 hd2 hw2
                ((hs2.mono fun i hm => by simp only [writes, List.mem_append]; exact .inr hm).trans hsub)
                (fun i hi => by rw [hL2 i (fun hm => hi (by simp only [names, List.mem_append]; exact .inr hm)), hL' i (hnub i hi)]) hk2
          | exit i => exact hK (.exit i) fr' a' w' H' L' hf' hd' hw' hsub (fun i hi => hL' i (hnub i hi)) hk
          | goto l => exact hK (.goto l) fr' a' w' H' L' hf' hd' hw' hsub (fun i hi => hL' i (hnub i hi)) hk
          | ret => exact hK .ret fr' a' w' H' L' hf' hd' hw' hsub (fun i hi => hL' i (hnub i hi)) hk))
      refine wp_seq (Go.wp_mono h1 fun e a' w' hq => ?_)
      cases e <;> first | exact hq | exact hq.elim
    · rename_i co x y
      split at h
      · rename_i t hc
        refine wp_cond (hf.eval hc) ?_
        cases t with
        | true =>
          exact ih x fr K L H R a w Q hf hd hw h fun e fr' a' w' H' L' hf' hd' hw' hs' hL' hk => hK e fr' a' w' H' L' hf' hd' hw'
            (hs'.mono fun i hm => by simp only [writes, List.mem_append]; exact .inl hm)
            (fun i hi => hL' i (fun hm => hi (by simp only [names, List.mem_append]; exact .inl hm))) hk
        | false =>
          exact ih y fr K L H R a w Q hf hd hw h fun e fr' a' w' H' L' hf' hd' hw' hs' hL' hk => hK e fr' a' w' H' L' hf' hd' hw'
            (hs'.mono fun i hm => by simp only [writes, List.mem_append]; exact .inr hm)
            (fun i hi => hL' i (fun hm => hi (by simp only [names, List.mem_append]; exact .inr hm))) hk
      · exact h.elim
    · rename_i id x
      have h1 := ih x fr _ L H R a w (Exit.inBlock id Q) hf hd hw h (fun e fr' a' w' H' L' hf' hd' hw' hs' hL' hk => by
        cases e with
        | exit i =>
          dsimp only at hk
          simp only [Exit.inBlock]
          split at hk
          · rename_i hi; rw [if_pos hi]; exact hK .normal fr' a' w' H' L' hf' hd' hw' hs' hL' hk
          · rename_i hi; rw [if_neg hi]; exact hK (.exit i) fr' a' w' H' L' hf' hd' hw' hs' hL' hk
        | normal => exact hK .normal fr' a' w' H' L' hf' hd' hw' hs' hL' hk
        | goto l => exact hK (.goto l) fr' a' w' H' L' hf' hd' hw' hs' hL' hk
        | ret => exact hK .ret fr' a' w' H' L' hf' hd' hw' hs' hL' hk)
      exact wp_block h1
    · rename_i x
      split at h
      · exact h.elim
      · rename_i hnm
        split at h
        · exact h.elim
        · rename_i vs hvs
          obtain ⟨x0, hx0, hC⟩ := h
          obtain ⟨hlen, hget⟩ := uo hvs
          refine BM ?_
          refine hC (fun y H' => ∀ (a' : Act) (w' : World), a'.defers = [] → dF w0 w' H' → jn (writes x) a' a →
            (∀ (k i : Nat) v, (slotsOf fr (writes x))[k]? = some i → (tX (vs.map IV) y)[k]? = some v → a'.tmps[i]? = some v) → Ax P x Q a' w') ?_ a w hd hw (jn.refl _ _) ?_
          · intro y H' hbody a' w' hd' hw' hsame hslots
            refine HW ?_
            have hfr : gM (Fr.setAll (fr.forget (writes x)) (slotsOf fr (writes x)) (tX (vs.map IV) y)) a' := xE (HM hf hsame) hslots
            have h1 := ih x _ _ _ H' R a' w' (exQ fun e a2 w2 => match e with
              | .normal => Ax P x Q a2 w2
              | e => Q e.xv a2 w2) hfr hd' hw' hbody (fun e fr2 a2 w2 H2 L2 hf2 hd2 hw2 hs2 hL2 hk => Fi (by
                have hs3 : jn (writes x) a2 a := hs2.trans hsame
                have hL3 : ∀ n, n ∉ names (.loop x) → L2 n = L n := fun n hn => by
                  simp only [names, List.mem_cons, not_or] at hn
                  rw [hL2 n hn.2, aZ.dJ _ _ hn.1]
                cases e with
                | normal =>
                  dsimp only at hk ⊢
                  split at hk
                  · rename_i vs2 hvs2
                    have hn : rG x ∉ names x := by simpa using hnm
                    change L2 (rG x) vs2 H2 at hk
                    rw [hL2 _ hn, aZ.bx] at hk
                    obtain ⟨x2, hx2, hgo⟩ := hk
                    exact hgo a2 w2 hd2 hw2 hs3 (by
                      obtain ⟨_, hg2⟩ := uo hvs2
                      intro k i v hk hv
                      rw [← hx2] at hv
                      exact hf2.get (hg2 k i v hk hv))
                  · exact hk.elim
                | exit i => exact hK (.exit i) fr2 a2 w2 H2 L2 hf2 hd2 hw2 hs3 hL3 hk
                | goto l => exact hK (.goto l) fr2 a2 w2 H2 L2 hf2 hd2 hw2 hs3 hL3 hk
                | ret => exact hK .ret fr2 a2 w2 H2 L2 hf2 hd2 hw2 hs3 hL3 hk))
            refine Go.wp_mono h1 fun e a2 w2 hq => ?_
            cases e <;> first | exact hq | exact hq.elim
          · intro k i v hk hv
            rw [← hx0] at hv
            exact hf.get (hget k i v hk hv)
    · rename_i x
      exact AK (pt ih 20 x fr L H a w hf hd hw h (jn.refl _ _) (fun _ _ => rfl) (fun _ hi => hi) (fun _ hi => hi) hK)
    · exact wp_exit (hK (.exit _) fr a w H L hf hd hw (jn.refl _ _) (fun _ _ => rfl) h)
    · exact wp_goto (hK (.goto _) fr a w H L hf hd hw (jn.refl _ _) (fun _ _ => rfl) h)
    · exact wp_ret (hK .ret fr a w H L hf hd hw (jn.refl _ _) (fun _ _ => rfl) h)
    · exact h.elim
theorem mapM_congr {α β : Type} {f g : α → Sem β} : ∀ (l : List α), (∀ x ∈ l, f x = g x) → l.mapM f = l.mapM g
  | [], _ => rfl
  | x :: l, h => by
    rw [List.mapM_cons, List.mapM_cons, h x List.mem_cons_self, mapM_congr l fun y hy => h y (List.mem_cons_of_mem _ hy)]
theorem Lv {l : List ResultVar} {r : ResultVar} (h : r ∈ l) : resSlot r ≤ (l.map resSlot).sum := by
  induction l with
  | nil => cases h
  | cons x l ih =>
    simp only [List.map_cons, List.sum_cons]
    rcases List.mem_cons.1 h with rfl | h
    · omega
    · have := ih h; omega
theorem Cq {fn : Func} {fr : Fr} {a : Act} (hf : gM fr a) (h : fn.results.all (fun r => (fr.get (resSlot r)).isSome) = true) : results fn a.tmps = results fn (fr.arr (vg fn)) := by
  have slot : ∀ r ∈ fn.results.toList, a.tmps.getD (resSlot r) undef = (fr.arr (vg fn)).getD (resSlot r) undef := fun r hr => by
    have := Array.all_eq_true_iff_forall_mem.1 h r (Array.mem_toList_iff.1 hr)
    obtain ⟨v, hv⟩ := Option.isSome_iff_exists.1 this
    have hlt : resSlot r < vg fn := by have := Lv hr; unfold vg; omega
    rw [Array.getD_eq_getD_getElem?, hf.get hv, Array.getD_eq_getD_getElem?]
    simp only [Fr.arr, List.getElem?_toArray, List.getElem?_map, List.getElem?_range hlt, Option.map_some, hv]
    rfl
  unfold results
  rw [← Array.toArray_toList (xs := fn.results)] 
  simp only [List.mapM_toArray]
  rw [mapM_congr fn.results.toList fun r hr => ?_]
  have := slot r hr
  cases r <;> simp only [resSlot] at this <;> simp only [this]
theorem run_bind {α β : Type} (P : Program) (s : Sem α) (k : α → Sem β) : ∀ w, (s.bind k).run P w = match s.run P w with
    | .ok a w' => (k a).run P w'
    | .halt h w' => .halt h w' := by
  induction s with
  | pure a => intro w; rfl
  | load m a j ih =>
    intro w
    simp only [Sem.bind, Sem.run]
    split
    · exact ih _ w
    · split
      · exact ih _ w
      · rfl
  | store m a v j ih =>
    intro w
    cases v <;> simp only [Sem.bind, Sem.run, ih] <;> first | rfl | (cases w.cell? a <;> dsimp only <;> split <;> rfl)
  | new o j ih => intro w; exact ih _ _
  | shape r j ih => intro w; exact ih _ _
  | freeze a n j ih => intro w; exact ih _
  | frozen a j ih => intro w; exact ih _ _
  | getObj r j ih =>
    intro w
    simp only [Sem.bind, Sem.run]
    split
    · rfl
    · exact ih _ w
    · rfl
  | setObj r o j ih =>
    intro w
    simp only [Sem.bind, Sem.run]
    split
    · rfl
    · exact ih _
    · rfl
  | choose q j ih =>
    intro w
    simp only [Sem.bind, Sem.run]
    split
    · exact ih _ w
    · exact ih _ _
  | sys c j ih => intro w; exact ih _ _
  | program j ih => intro w; exact ih _ _
  | mark m j ih => intro w; exact ih _
  | halt x => intro w; rfl
theorem vS {fn : Func} {tmps : Array Value} {v : Value} {w : World} (h : (Cj fn tmps).run P w = .ok (.value v) w) : (results fn tmps).run P w = .ok v w := by
  have h1 := run_bind P (results fn tmps) (fun v => (Sem.pure (Next.value v) : Sem Next)) w
  change ((results fn tmps).bind (fun v => (Sem.pure (Next.value v) : Sem Next))).run P w = _ at h
  rw [h1] at h
  generalize (results fn tmps).run P w = r at h
  cases r with
  | ok a w' => simp only [Sem.run, Result.ok.injEq, Next.value.injEq] at h; rw [h.1, h.2]
  | halt x w' => cases h
theorem B3 {fn : Func} {tmps : Array Value} {w : World} (f : FuncId) (args : Array Value) : (Cj fn tmps).run P w ≠ .ok (.enter f args) w := by
  intro h
  have h1 := run_bind P (results fn tmps) (fun v => (Sem.pure (Next.value v) : Sem Next)) w
  change ((results fn tmps).bind (fun v => (Sem.pure (Next.value v) : Sem Next))).run P w = _ at h
  rw [h1] at h
  generalize (results fn tmps).run P w = r at h
  cases r with
  | ok a w' => simp only [Sem.run, Result.ok.injEq] at h; cases h.1
  | halt x w' => cases h
theorem sH {f : FuncId} {fn : Func} {args : Array Value} {H : Heap} {R : Value → Heap → Prop} (hf : P.funcs[f]? = some fn) 
    (h : ∀ L, wp P (re P cfg fn args.toList) L H R) : cB P f args H R := by
  intro w0 w hw
  have h := h (fun _ _ _ => False)
  unfold re at h
  split at h
  · rename_i c hc
    refine calls_of_wp hf hc ?_
    refine uQ (w0 := w0) 400 c _ _ _ H R _ w _ ?_ rfl hw h ?_
    · refine xE ⟨fun t ht => ?_, fun i v hi => ?_⟩ fun k i v hk hv => ?_
      · have := Fr.Ft _ _ _ ht
        simpa using this
      · rw [Fr.Fo] at hi; cases hi
      · have hlt : k < args.toList.length := by
          have := List.getElem?_eq_some_iff.1 hv
          exact this.1
        rw [List.getElem?_range hlt] at hk
        cases hk
        rw [Array.getElem?_append, if_pos (by simpa using hlt)]
        simpa using hv
    · intro e fr' a' w' H' L' hf' hd' hw' _ _ hk
      have main : wp P (B8 P fn .ret fr') L' H' R → bodyPost P fn (fun e w' => ∃ v H', e = .returned v ∧ dF w0 w' H' ∧ R v H') .ret a' w' := fun hk => by
        unfold B8 at hk
        dsimp only at hk
        split at hk
        · rename_i hall
          have hres := Cq hf' hall
          split at hk
          · rename_i v hv
            have hr := AU P _ _ hv w'
            obtain ⟨H2, hl, hR⟩ := hk
            refine ⟨hd', v, ?_, v, H2, rfl, hw'.le hl, hR⟩
            rw [hres]
            exact vS hr
          · obtain ⟨x, hx, H2, hl, hR⟩ := hk
            obtain ⟨n, hn, hr⟩ := BG P _ _ _ hx
            have hr' := hr w0 w' hw'
            rw [MV] at hr'
            cases n <;> simp only [nextL] at hn <;> first | exact hn.elim | skip
            · subst hn
              refine ⟨hd', _, ?_, _, H2, rfl, hw'.le hl, hR⟩
              rw [hres]
              exact vS hr'
            · exact absurd hr' (B3 _ _)
        · exact hk.elim
      cases e with
      | normal => exact main hk
      | ret => exact main hk
      | exit i => exact hk.elim
      | goto l => exact hk.elim
  · exact h.elim
end
end Go.Fw
/- The words in which printed trees are written; what they mean. -/
namespace Go.Fw
open Go
def w64 (x : Int) : Int := IntKind.wrap .i64 x
def gO (x y : Int) : Int := w64 (((BitVec.ofInt 64 x &&& BitVec.ofInt 64 y).toNat : Nat) : Int)
def ior (x y : Int) : Int := w64 (((BitVec.ofInt 64 x ||| BitVec.ofInt 64 y).toNat : Nat) : Int)
def imax (x y : Int) : Int := if y > x then y else x
def mH (x y : Int) : Int := if y < x then y else x
def envOf (vs : List Value) : Operand → Value
  | .tmp t => vs.getD t undef
  | .const v => v
  | .global g => .pointer (some ⟨g, 0, none⟩)
  | .func f => .func (.func f) #[] #[]
/-- An operation's meaning at its operands. -/
def opS (P : Program) (op : Op) (ty : TypeId) (vs : List Value) : Sem Next :=
  nf P (execOp (envOf vs) { dst := none, op := op, type := ty, pos := "", after := #[], guard := none })
def ldS (a : Addr) : Sem Next := .load .plain a fun v => .pure (.value v)
def ldAS (a : Addr) : Nat → Nat → Array Value → Sem Next
  | 0, _, acc => .pure (.value (.agg acc))
  | n + 1, i, acc => .load .plain (a.add i) fun v => ldAS a n (i + 1) (acc.push v)
def KJ (a : Addr) : List Value → Nat → Sem Next
  | [], _ => .pure .skip
  | v :: l, i => .store .plain (a.add i) v (KJ a l (i + 1))
def ldK (a : Addr) : Nat → Nat → Array Value → (Array Value → Sem Next) → Sem Next
  | 0, _, acc, k => k acc
  | n + 1, i, acc, k => .load .plain (a.add i) fun v => ldK a n (i + 1) (acc.push v) k
@[reducible] def Tree.ld (a : Addr) (l : iH) (k : l.T → Tree) : Tree := .look (ldS a) (.one (.leaf l)) k
@[reducible] def Tree.ldA (a : Addr) (ls : List iH) (k : HL iH.T ls → Tree) : Tree := .look (ldAS a ls.length 0 #[]) (.one (.agg ls)) k
@[reducible] def Tree.st (a : Addr) (v : Value) (k : Tree) : Tree := .act (.store .plain a v (.pure .skip)) .unit fun _ => k
@[reducible] def Tree.stA (a : Addr) (vs : List Value) (k : Tree) : Tree := .act (KJ a vs 0) .unit fun _ => k
@[reducible] def Tree.call (f : FuncId) (args : List Value) (sh : Sh) (k : sh.T → Tree) : Tree := .act (.pure (.enter f args.toArray)) sh k
@[reducible] def Tree.cU (f : FuncId) (args : List Value) (sh : Sh) (k : sh.T → Tree) : Tree := .look (.pure (.enter f args.toArray)) sh k
@[reducible] def Tree.dk (o : Obj) (k : Addr → Tree) : Tree := .make (.new o fun b => .pure (.value (.pointer (some ⟨b, 0, none⟩)))) (.one (.leaf .addr)) k
@[reducible] def Tree.qB (o : Obj) (n : Nat) (k : Sl → Tree) : Tree := .make (.new o fun b => .pure (.value (.slice (some ⟨b, 0, none⟩) n n))) (.one (.leaf .slice)) k
@[reducible] def Tree.CO (k : Option Nat → Tree) : Tree := .make (.new (.map #[] 0) fun b => .pure (.value (.map (some b)))) (.one (.leaf .map)) k
end Go.Fw
/- What each word of a printed tree asks. -/
namespace Go.Fw
open Go
section
variable {P : Program} {L : aZ} {H : Heap} {R : Value → Heap → Prop}
def Heap.get (H : Heap) (b : Nat) : Obj := (H b).getD default
theorem Heap.le_refl (H : Heap) : H.le H := fun _ _ h => h
theorem Heap.le_trans {H K M : Heap} (h : H.le K) (k : K.le M) : H.le M := fun b o e => k b o (h b o e)
theorem Heap.bx (H : Heap) (b : Nat) (o : Obj) : (H.set b o) b = some o := by simp [Heap.set]
theorem Heap.dJ (H : Heap) {b c : Nat} (o : Obj) (h : c ≠ b) : (H.set b o) c = H c := by simp [Heap.set, h]
theorem Heap.EF {H : Heap} {b : Nat} {o : Obj} (h : H b = some o) : H.get b = o := by simp [Heap.get, h]
theorem Heap.set_set (H : Heap) (b : Nat) (o o' : Obj) : (H.set b o).set b o' = H.set b o' := by funext c; simp only [Heap.set]; split <;> rfl
theorem Heap.set_comm (H : Heap) {b c : Nat} (o o' : Obj) (h : b ≠ c) : (H.set b o).set c o' = (H.set c o').set b o := by
  funext d; simp only [Heap.set]
  by_cases h1 : d = c
  · rw [if_pos h1, if_neg (fun e => h (e.symm.trans h1)), if_pos h1]
  · rw [if_neg h1, if_neg h1]
theorem Heap.qP {H : Heap} {b : Nat} {o : Obj} (h : H b = some o) : H.set b o = H := by
  funext c; simp only [Heap.set]; split
  · rename_i e; rw [e, h]
  · rfl
theorem Heap.dM {H : Heap} {b : Nat} (o : Obj) (h : H b = none) : H.le (H.set b o) := fun c o' e => by
  by_cases hc : c = b
  · subst hc; rw [h] at e; cases e
  · rw [Heap.dJ _ _ hc]; exact e
theorem Heap.fE {H : Heap} {b : Nat} {c : Array Value} {T : TypeId} {f : Nat × Nat} (n : Nat) : (H.set b (.cells c T f)).cell? ⟨b, n, none⟩ = c[n]? := by
  simp [Heap.cell?, Heap.set]
theorem Heap.cell_of {H : Heap} {b : Nat} {c : Array Value} {T : TypeId} {f : Nat × Nat} (h : H b = some (.cells c T f)) (n : Nat) : H.cell? ⟨b, n, none⟩ = c[n]? := by
  simp [Heap.cell?, h]
theorem Heap.vm {H : Heap} {b d : Nat} {o : Obj} (h : d ≠ b) (n : Nat) : (H.set b o).cell? ⟨d, n, none⟩ = H.cell? ⟨d, n, none⟩ := by
  simp [Heap.cell?, Heap.set, h]
theorem Heap.xx {H : Heap} {b : Nat} {c : Array Value} {T : TypeId} (h : H b = some (.cells c T (0, 0))) (n : Nat) : H.frozen? ⟨b, n, none⟩ = false := by
  simp [Heap.frozen?, h]
theorem Addr.gF (b o n : Nat) : (Addr.mk b o none).add n = ⟨b, o + n, none⟩ := by
  unfold Addr.add; split
  · rename_i h; simp [h]
  · rfl
theorem pO {H : Heap} {a : Addr} {v u : Value} (h : H.cell? a = some u) : H.setCell a v = H.set a.block (Obj.put a v (H.get a.block)) := by
  funext c
  unfold Heap.setCell Heap.set
  split
  · rename_i e; subst e
    unfold Heap.cell? at h
    split at h
    · rename_i x t f hx; simp [hx, Heap.get]
    · cases h
  · rfl
theorem xI (b n : Nat) (v : Value) (c : Array Value) (T : TypeId) (f : Nat × Nat) : Obj.put ⟨b, n, none⟩ v (.cells c T f) = .cells (c.setIfInBounds n v) T f := rfl
theorem ad {v : Value} (h : R v H) : wp P (.ret v) L H R := ⟨H, Heap.le_refl H, h⟩
theorem zV {b : Bool} {s t : Tree} : wp P (bif b then s else t) L H R ↔ (b = true → wp P s L H R) ∧ (b = false → wp P t L H R) := by cases b <;> simp
theorem av {b : Bool} {s t : Tree} (hb : b = true) (h : wp P s L H R) : wp P (bif b then s else t) L H R := by rw [hb]; exact h
theorem af {b : Bool} {s t : Tree} (hb : b = false) (h : wp P t L H R) : wp P (bif b then s else t) L H R := by rw [hb]; exact h
theorem NC {a : Addr} {l : iH} {k : l.T → Tree} : wp P (.ld a l k) L H R ↔ ∃ x, H.cell? a = some (l.fq x) ∧ wp P (k x) L H R := by
  constructor
  · rintro ⟨x, ⟨v, hv, hx⟩, h⟩; exact ⟨x, by rw [hv]; exact congrArg some hx, h⟩
  · rintro ⟨x, hv, h⟩; exact ⟨x, ⟨_, hv, rfl⟩, h⟩
theorem bL {a : Addr} {l : iH} {k : l.T → Tree} {x : l.T} (hx : H.cell? a = some (l.fq x)) (h : wp P (k x) L H R) : wp P (.ld a l k) L H R := NC.2 ⟨x, hx, h⟩
theorem Oo {a : Addr} {v : Value} {k : Tree} : wp P (.st a v k) L H R ↔ Value.single v = true ∧ (∃ u, H.cell? a = some u) ∧ H.frozen? a = false ∧ wp P k L (H.set a.block (Obj.put a v (H.get a.block))) R := by
  constructor
  · rintro ⟨h1, ⟨u, h2⟩, h3, x, _, h4⟩
    exact ⟨h1, ⟨u, h2⟩, h3, by rw [← pO h2]; exact h4⟩
  · rintro ⟨h1, ⟨u, h2⟩, h3, h4⟩
    exact ⟨h1, ⟨u, h2⟩, h3, (), rfl, by rw [pO h2]; exact h4⟩
theorem gd {b n : Nat} {v u : Value} {k : Tree} {c : Array Value} {T : TypeId} (hb : H b = some (.cells c T (0, 0))) (hn : c[n]? = some u) (hs : Value.single v = true)
    (h : wp P k L (H.set b (.cells (c.setIfInBounds n v) T (0, 0))) R) : wp P (.st ⟨b, n, none⟩ v k) L H R := by
  refine Oo.2 ⟨hs, ⟨u, by rw [Heap.cell_of hb]; exact hn⟩, Heap.xx hb n, ?_⟩
  show wp P k L (H.set b (Obj.put ⟨b, n, none⟩ v (H.get b))) R
  rw [Heap.EF hb, xI]; exact h
def putAll (c : Array Value) : Nat → List Value → Array Value
  | _, [] => c
  | n, v :: l => putAll (c.setIfInBounds n v) (n + 1) l
theorem Dg {b n T : Nat} {k : Next → Heap → Prop} : ∀ (vs : List Value) (i : Nat) (c : Array Value) (H : Heap), H b = some (.cells c T (0, 0)) → n + i + vs.length ≤ c.size → (∀ v ∈ vs, Value.single v = true) →
    k .skip (H.set b (.cells (putAll c (n + i) vs) T (0, 0))) → fu P (KJ ⟨b, n, none⟩ vs i) H k
  | [], i, c, H, hb, _, _, h => by
    show k .skip H
    rw [← Heap.qP hb]; exact h
  | v :: vs, i, c, H, hb, hn, hs, h => by
    simp only [List.length_cons] at hn
    have hlt : n + i < c.size := by omega
    have hc : H.cell? ((Addr.mk b n none).add i) = some c[n + i] := by rw [Addr.gF, Heap.cell_of hb]; simp [hlt]
    refine ⟨hs v List.mem_cons_self, ⟨_, hc⟩, by rw [Addr.gF]; exact Heap.xx hb _, ?_⟩
    rw [pO hc, Addr.gF]
    show fu P (KJ ⟨b, n, none⟩ vs (i + 1)) (H.set b (Obj.put ⟨b, n + i, none⟩ v (H.get b))) k
    rw [Heap.EF hb, xI]
    refine Dg vs (i + 1) (c.setIfInBounds (n + i) v) _ (Heap.bx _ _ _) (by simp; omega) (fun u hu => hs u (List.mem_cons_of_mem _ hu)) ?_
    rw [Heap.set_set]; exact h
theorem gS {b n : Nat} {vs : List Value} {k : Tree} {c : Array Value} {T : TypeId} (hb : H b = some (.cells c T (0, 0))) (hn : n + vs.length ≤ c.size) (hs : ∀ v ∈ vs, Value.single v = true)
    (h : wp P k L (H.set b (.cells (putAll c n vs) T (0, 0))) R) : wp P (.stA ⟨b, n, none⟩ vs k) L H R :=
  Dg (P := P) vs 0 c H hb (by simpa using hn) hs ⟨(), rfl, h⟩
theorem iX {b n T : Nat} {f : Nat × Nat} {c : Array Value} {k : Array Value → Sem Next} {Q : Next → Prop} (hb : H b = some (.cells c T f)) : ∀ (m i : Nat) (acc : Array Value), n + i + m ≤ c.size →
    cq P (k (acc ++ c.extract (n + i) (n + i + m))) H Q → cq P (ldK ⟨b, n, none⟩ m i acc k) H Q
  | 0, i, acc, _, h => by
    have e : acc ++ c.extract (n + i) (n + i + 0) = acc := by simp; omega
    rw [e] at h; exact h
  | m + 1, i, acc, hn, h => by
    have hlt : n + i < c.size := by omega
    refine ⟨c[n + i], by rw [Addr.gF, Heap.cell_of hb]; simp [hlt], ?_⟩
    refine iX hb m (i + 1) (acc.push c[n + i]) (by omega) ?_
    have e : acc ++ c.extract (n + i) (n + i + (m + 1)) = acc.push c[n + i] ++ c.extract (n + (i + 1)) (n + (i + 1) + m) := by
      apply Array.ext'
      simp only [Array.toList_append, Array.toList_push, List.append_assoc, Array.toList_extract]
      congr 1
      simp only [List.extract_eq_take_drop]
      rw [show n + i + (m + 1) - (n + i) = m + 1 by omega, show n + (i + 1) + m - (n + (i + 1)) = m by omega, List.drop_eq_getElem_cons (by simpa using hlt)]
      simp [List.take_succ_cons, Nat.add_assoc]
    rw [← e]; exact h
theorem zD (a : Addr) : ∀ (n i : Nat) (acc : Array Value), ldAS a n i acc = ldK a n i acc fun c => .pure (.value (.agg c))
  | 0, _, _ => rfl
  | n + 1, i, acc => by simp only [ldAS, ldK, zD a n]
theorem yt {b n T : Nat} {f : Nat × Nat} {ls : List iH} {k : HL iH.T ls → Tree} {c : Array Value} {x : HL iH.T ls} (hb : H b = some (.cells c T f)) (hn : n + ls.length ≤ c.size)
    (hx : c.extract n (n + ls.length) = (HL.gN iH.fq ls x).toArray) (h : wp P (k x) L H R) : wp P (.ldA ⟨b, n, none⟩ ls k) L H R := by
  refine ⟨x, ?_, h⟩
  rw [zD]
  refine iX hb _ 0 #[] (by simpa using hn) ?_
  show (Value.agg (#[] ++ c.extract n (n + ls.length)) : Value) = _
  rw [hx]; simp
theorem dI {o : Obj} {k : Addr → Tree} (h : ∀ b, H b = none → wp P (k ⟨b, 0, none⟩) L (H.set b o) R) (hp : Obj.plain o = true := by rfl) : wp P (.dk o k) L H R :=
  ⟨o, fun b => .pointer (some ⟨b, 0, none⟩), ⟨⟨rfl, hp⟩, fun _ => rfl⟩, fun b hb => ⟨⟨b, 0, none⟩, rfl, h b hb⟩⟩
theorem Kn {o : Obj} {n : Nat} {k : Sl → Tree} (h : ∀ b, H b = none → wp P (k ⟨some ⟨b, 0, none⟩, n, n⟩) L (H.set b o) R) (hp : Obj.plain o = true := by rfl) : wp P (.qB o n k) L H R :=
  ⟨o, fun b => .slice (some ⟨b, 0, none⟩) n n, ⟨⟨rfl, hp⟩, fun _ => rfl⟩, fun b hb => ⟨⟨some ⟨b, 0, none⟩, n, n⟩, rfl, h b hb⟩⟩
theorem zt {k : Option Nat → Tree} (h : ∀ b, H b = none → wp P (k (some b)) L (H.set b (.map #[] 0)) R) : wp P (.CO k) L H R :=
  ⟨.map #[] 0, fun b => .map (some b), ⟨⟨rfl, rfl⟩, fun _ => rfl⟩, fun b hb => ⟨some b, rfl, h b hb⟩⟩
theorem aR {f : FuncId} {args : List Value} {sh : Sh} {k : sh.T → Tree} {R0 : Value → Heap → Prop} (h : cB P f args.toArray H R0)
    (hk : ∀ v H', R0 v H' → ∃ x, v = sh.fq x ∧ wp P (k x) L H' R) : wp P (.call f args sh k) L H R := cB.mono h hk
/-- A function that answers v, and leaves H' at least. -/
def Det (P : Program) (f : FuncId) (args : List Value) (H : Heap) (v : Value) (H' : Heap) : Prop := cB P f args.toArray H fun u K => u = v ∧ K = H'
theorem ax {f : FuncId} {args : List Value} {sh : Sh} {k : sh.T → Tree} {x : sh.T} {H' : Heap} (h : Det P f args H (sh.fq x) H')
    (hk : wp P (k x) L H' R) : wp P (.call f args sh k) L H R := cB.mono h fun v K ⟨hv, hK⟩ => ⟨x, hv, by rw [hK]; exact hk⟩
theorem bc {f : FuncId} {args : List Value} {sh : Sh} {k : sh.T → Tree} {x : sh.T} (h : Det P f args H (sh.fq x) H)
    (hk : wp P (k x) L H R) : wp P (.cU f args sh k) L H R := ⟨x, cB.mono h fun v K ⟨hv, hK⟩ => ⟨hv, by rw [hK]; exact Heap.le_refl H⟩, hk⟩
theorem aa {a : Addr} {t : TypeId} {k : Addr → Tree} : wp P (.look (opS P (.nilCheck (.tmp 0)) t [.pointer (some a)]) (.one (.leaf .addr)) k) L H R ↔ wp P (k a) L H R := by
  constructor
  · rintro ⟨x, hx, h⟩
    have : x = a := by
      have h1 : (.pointer (some a) : Value) = .pointer (some x) := hx
      simpa using h1.symm
    subst this; exact h
  · intro h; exact ⟨a, rfl, h⟩
theorem aB {s : Sem Next} {sh : Sh} {k : sh.T → Tree} {x : sh.T} (hs : s = .pure (.value (sh.fq x))) (h : wp P (k x) L H R) : wp P (.look s sh k) L H R := by
  subst hs; exact ⟨x, rfl, h⟩
theorem wq {s : Sem Next} {f : FuncId} {args : List Value} {sh : Sh} {k : sh.T → Tree} {x : sh.T} (hs : s = .pure (.enter f args.toArray)) (h : Det P f args H (sh.fq x) H) (hk : wp P (k x) L H R) : wp P (.look s sh k) L H R := by
  subst hs; exact bc h hk
theorem bZ {s : Sem Next} {f : FuncId} {args : List Value} {sh : Sh} {k : sh.T → Tree} (hs : s = .pure (.enter f args.toArray)) (hk : wp P (.call f args sh k) L H R) : wp P (.act s sh k) L H R := by
  subst hs; exact hk
theorem Bq {s : Sem Next} {v : Value} {t : Tree} (hs : s = .pure (.value v)) (h : wp P t L H R) : wp P (.check s v t) L H R := by
  subst hs; exact ⟨rfl, h⟩
theorem LG {t u : TypeId} {n e : Nat} {i : Int} {a : Addr} {info : TypeInfo} (hu : P.underlying t = some (.array n e)) (hi : P.info? e = some info) (h0 : 0 ≤ i) (h1 : i < n) :
    opS P (.indexAddr t (.tmp 0) (.tmp 1)) u [.pointer (some a), .int .i64 i] = .pure (.value (.pointer (some (a.add (i.toNat * info.size))))) := by
  simp [opS, execOp, envOf, Instr.indexAt, asIntOf, underlying, program, nf, hu, hi, h0, h1, Instr.sureAddr, sizeOf, typeInfo, bind, pure, Sem.bind]
theorem uv {t u : TypeId} {e l c : Nat} {i : Int} {a : Addr} {info : TypeInfo} (hu : P.underlying t = some (.slice e)) (hi : P.info? e = some info) (h0 : 0 ≤ i) (h1 : i < l) :
    opS P (.indexAddr t (.tmp 0) (.tmp 1)) u [.slice (some a) l c, .int .i64 i] = .pure (.value (.pointer (some (a.add (i.toNat * info.size))))) := by
  simp [opS, execOp, envOf, Instr.indexAt, asIntOf, underlying, program, nf, hu, hi, h0, h1, sizeOf, typeInfo, bind, pure, Sem.bind]
theorem wX {t t' u : TypeId} {x y : Int} (hy : y ≠ 0) : opS P (.binOp .rem t (.tmp 0) (.tmp 1) t') u [.int .i64 x, .int .i64 y] = .pure (.value (.int .i64 (Int.tmod x y))) := by
  simp [opS, execOp, envOf, nf, eqGuard, binOp, Op.intDiv, hy, bind, pure, Sem.bind]
theorem KL {t t' u : TypeId} {x y : Int} (hy : y ≠ 0) : opS P (.binOp .quo t (.tmp 0) (.tmp 1) t') u [.int .i64 x, .int .i64 y] = .pure (.value (.int .i64 (w64 (Int.tdiv x y)))) := by
  simp [opS, execOp, envOf, nf, eqGuard, binOp, Op.intDiv, hy, bind, pure, Sem.bind, w64]
theorem Cg {t t' u : TypeId} {x y : Int} (hy : 0 ≤ y) : opS P (.binOp .shl t (.tmp 0) (.tmp 1) t') u [.int .i64 x, .int .i64 y] = .pure (.value (.int .i64 (w64 (x * 2 ^ (min y.toNat 64))))) := by
  have : ¬ y < 0 := by omega
  simp [opS, execOp, envOf, nf, eqGuard, binOp, Op.shift, this, bind, pure, Sem.bind, w64, IntKind.bits]
theorem vf {t t' u : TypeId} {x y : Int} (hy : 0 ≤ y) : opS P (.binOp .shr t (.tmp 0) (.tmp 1) t') u [.int .i64 x, .int .i64 y] = .pure (.value (.int .i64 (x.fdiv (2 ^ (min y.toNat 64))))) := by
  have : ¬ y < 0 := by omega
  simp [opS, execOp, envOf, nf, eqGuard, binOp, Op.shift, this, bind, pure, Sem.bind, IntKind.bits]
/-- A loop, by what holds at its head. -/
theorem kv {n : Nat} {shs : List Sh1} {init : List Value} {body : HL Sh1.T shs → Tree} (I : HL Sh1.T shs → Heap → Prop) (m : HL Sh1.T shs → Heap → Nat) (x0 : HL Sh1.T shs)
    (h0 : init = tX shs x0) (hI : I x0 H) (hstep : ∀ x H', I x H' → wp P (body x) (L.set n fun gN H'' => ∃ x', gN = tX shs x' ∧ I x' H'' ∧ m x' H'' < m x H') H' R) :
    wp P (.loop n shs init body) L H R := by
  refine ⟨x0, h0, fun C hC => ?_⟩
  have key : ∀ (d : Nat) x H', m x H' = d → I x H' → C x H' := by
    intro d
    induction d using Nat.strongRecOn with
    | _ d ih =>
      intro x H' hd hx
      refine hC x H' (wp_mono _ (hstep x H' hx) (fun k gN H'' hk => ?_) (fun _ _ h => h))
      unfold aZ.set at *
      split at hk
      · rename_i e; rw [if_pos e]; obtain ⟨x', h1, h2, h3⟩ := hk; exact ⟨x', h1, ih _ (hd ▸ h3) x' H'' rfl h2⟩
      · rename_i e; rw [if_neg e]; exact hk
  exact key _ x0 H rfl hI
/-- One round of a loop, then the loop. -/
theorem bT {n : Nat} {shs : List Sh1} {init : List Value} {body : HL Sh1.T shs → Tree} (x0 : HL Sh1.T shs) (h0 : init = tX shs x0)
    (h : wp P (body x0) (L.set n fun gN H'' => wp P (.loop n shs gN body) L H'' R) H R) : wp P (.loop n shs init body) L H R := by
  refine ⟨x0, h0, fun C hC => hC x0 H (wp_mono _ h (fun k gN H'' hk => ?_) (fun _ _ h => h))⟩
  unfold aZ.set at *
  split at hk
  · rename_i e; rw [if_pos e]
    obtain ⟨x', h1, h2⟩ := hk
    exact ⟨x', h1, h2 C hC⟩
  · rename_i e; rw [if_neg e]; exact hk
theorem cR {n : Nat} {gN : List Value} {C : List Value → Heap → Prop} (h : C gN H) : wp P (.again n gN) (L.set n C) H R := by
  show (L.set n C) n gN H
  unfold aZ.set; rw [if_pos rfl]; exact h
end
theorem CT {a b : Int} (h : a ≠ b) : (a != b) = true := bne_iff_ne.2 h
theorem Eh {a b : Int} (h : a = b) : (a != b) = false := by subst h; simp
theorem j7 {a b : Int} (h : a = b) : (a == b) = true := beq_iff_eq.2 h
theorem iR {a b : Int} (h : a ≠ b) : (a == b) = false := beq_eq_false_iff_ne.2 h
theorem ilt {a b : Int} (h : a < b) : decide (a < b) = true := decide_eq_true h
theorem zk {a b : Int} (h : b ≤ a) : decide (a < b) = false := decide_eq_false (by omega)
theorem ile {a b : Int} (h : a ≤ b) : decide (a ≤ b) = true := decide_eq_true h
theorem Pg {a b : Int} (h : b < a) : decide (a ≤ b) = false := decide_eq_false (by omega)
theorem aE {x : Int} (h0 : -9223372036854775808 ≤ x) (h1 : x ≤ 9223372036854775807) : w64 x = x := by
  unfold w64; rw [IntKind.wrap_i64]; omega
end Go.Fw
/- Operations on maps, slices and pointers, said of views. -/
namespace Go.Fw
open Go
section
variable {P : Program} {L : aZ} {H : Heap} {R : Value → Heap → Prop}
theorem gv {α β : Type} (s : Sem α) (k : α → Sem β) {Q : β → Prop} : cq P s H (fun a => cq P (k a) H Q) → cq P (s.bind k) H Q := by
  induction s with
  | pure a => intro h; exact h
  | load m a j ih => intro h; obtain ⟨v, hc, h⟩ := h; exact ⟨v, hc, ih v h⟩
  | shape r j ih => intro h; exact ⟨h.1, ih _ h.2⟩
  | frozen a j ih => intro h; exact ⟨h.1, ih _ h.2⟩
  | getObj r j ih => intro h; obtain ⟨o, h1, h2, h3⟩ := h; exact ⟨o, h1, h2, ih _ h3⟩
  | program j ih => intro h; exact ih P h
  | mark m j ih => intro h; exact ih h
  | _ => intro h; exact h.elim
theorem cf {α β : Type} (s : Sem α) (k : α → Sem β) : ∀ {H : Heap} {Q : β → Heap → Prop}, fu P s H (fun a H' => fu P (k a) H' Q) → fu P (s.bind k) H Q := by
  induction s with
  | pure a => intro H Q h; exact h
  | load m a j ih => intro H Q h; obtain ⟨v, hc, h⟩ := h; exact ⟨v, hc, ih v h⟩
  | store m a v j ih => intro H Q h; exact ⟨h.1, h.2.1, h.2.2.1, ih h.2.2.2⟩
  | new o j ih => intro H Q h; exact ⟨h.1, fun b hb => ih b (h.2 b hb)⟩
  | shape r j ih => intro H Q h; exact ⟨h.1, ih _ h.2⟩
  | frozen a j ih => intro H Q h; exact ⟨h.1, ih _ h.2⟩
  | getObj r j ih => intro H Q h; obtain ⟨o, h1, h2, h3⟩ := h; exact ⟨o, h1, h2, ih _ h3⟩
  | setObj r o j ih => intro H Q h; exact ⟨h.1, h.2.1, ih h.2.2⟩
  | choose q j ih => intro H Q h; exact ⟨fun e => ih _ (h.1 e), fun e t => ih _ (h.2 e t)⟩
  | program j ih => intro H Q h; exact ih P h
  | mark m j ih => intro H Q h; exact ih h
  | _ => intro H Q h; exact h.elim
theorem xn {α : Type} (s : Sem α) : ∀ {H : Heap} {Q : α → Heap → Prop}, fu P s H Q → fu P (nf P s) H Q := by
  induction s with
  | pure a => intro H Q h; exact h
  | load m a k ih => intro H Q h; obtain ⟨v, hc, h⟩ := h; exact ⟨v, hc, ih v h⟩
  | store m a v k ih => intro H Q h; exact ⟨h.1, h.2.1, h.2.2.1, ih h.2.2.2⟩
  | new o k ih => intro H Q h; exact ⟨h.1, fun b hb => ih b (h.2 b hb)⟩
  | shape r k ih => intro H Q h; exact ⟨h.1, ih _ h.2⟩
  | frozen a k ih => intro H Q h; exact ⟨h.1, ih _ h.2⟩
  | getObj r k ih => intro H Q h; obtain ⟨o, h1, h2, h3⟩ := h; exact ⟨o, h1, h2, ih _ h3⟩
  | setObj r o k ih => intro H Q h; exact ⟨h.1, h.2.1, ih h.2.2⟩
  | choose q k ih => intro H Q h; exact ⟨fun e => ih _ (h.1 e), fun e t => ih _ (h.2 e t)⟩
  | program k ih => intro H Q h; exact ih P h
  | mark m k ih => intro H Q h; exact ih h
  | _ => intro H Q h; exact h.elim
/-! ### Maps from whole numbers -/
def mapEs {V : Type} (enc : V → Value) : List (Int × V) → Nat → List MapEntry
  | [], _ => []
  | (k, v) :: l, i => { key := .int .i64 k, val := enc v, born := i } :: mapEs enc l (i + 1)
def bJ {V : Type} (enc : V → Value) (l : List (Int × V)) : Obj := .map (mapEs enc l 0).toArray l.length
def alGet {V : Type} : List (Int × V) → Int → Option V
  | [], _ => none
  | (k, v) :: l, x => if x = k then some v else alGet l x
def alPut {V : Type} : List (Int × V) → Int → V → List (Int × V)
  | [], x, u => [(x, u)]
  | (k, v) :: l, x, u => if x = k then (k, u) :: l else (k, v) :: alPut l x u
theorem vj {V : Type} (l : List (Int × V)) (x : Int) (u : V) (y : Int) : alGet (alPut l x u) y = if y = x then some u else alGet l y := by
  induction l with
  | nil => simp [alPut, alGet]
  | cons p l ih =>
    obtain ⟨k, v⟩ := p
    unfold alPut
    split
    · rename_i h; subst h; simp only [alGet]; split <;> rfl
    · rename_i h
      simp only [alGet, ih]
      by_cases h1 : y = k
      · subst h1; rw [if_pos rfl, if_neg (fun e => h e.symm), if_pos rfl]
      · rw [if_neg h1, if_neg h1]
theorem findNow_get {V : Type} (enc : V → Value) (x : Int) (l : List (Int × V)) : ∀ i j, ∃ r, Instr.findNow (.int .i64) (.int .i64 x) (mapEs enc l i) j = some r ∧
    (match alGet l x with | some v => ∃ n, r = some (j + n, enc v) ∧ n < l.length ∧ (l[n]?).map (·.1) = some x ∧ (∀ m, m < n → (l[m]?).map (·.1) ≠ some x) | none => r = none) := by
  induction l with
  | nil => intro i j; exact ⟨none, rfl, rfl⟩
  | cons p l ih =>
    intro i j
    obtain ⟨k, v⟩ := p
    simp only [mapEs, Instr.findNow, Instr.sameNow, if_true, alGet]
    by_cases h : x = k
    · subst h
      simp only [beq_self_eq_true, if_true]
      exact ⟨_, rfl, 0, rfl, by simp, by simp, fun m hm => by omega⟩
    · have hb : (x == k) = false := by simpa using h
      simp only [hb, h, if_false]
      obtain ⟨r, hr, hc⟩ := ih (i + 1) (j + 1)
      refine ⟨r, hr, ?_⟩
      cases hg : alGet l x with
      | none => rw [hg] at hc; exact hc
      | some u =>
        rw [hg] at hc
        obtain ⟨n, h1, h2, h3, h4⟩ := hc
        refine ⟨n + 1, by rw [h1]; congr 2; omega, by simp; omega, by simpa using h3, fun m hm => ?_⟩
        cases m with
        | zero => simp; exact fun e => h e.symm
        | succ m => simpa using h4 m (by omega)
theorem sO (empty : Bool) (kt : TypeId) (x : Int) (hk : P.underlying kt = some (.int .i64)) (n : Nat) {Q : Unit → Prop} (h : Q ()) : cq P (Instr.checkKey empty (n + 1) kt (.int .i64 x)) H Q := by
  show cq P (Sem.bind (underlying kt) _) H Q
  refine gv _ _ ?_
  show cq P (match P.underlying kt with | some d => pure d | none => stuck "no such type" : Sem TypeDesc) H _
  rw [hk]
  exact h
theorem fh {t : TypeId} {d : TypeDesc} (h : P.underlying t = some d) {Q : TypeDesc → Prop} (hq : Q d) : cq P (underlying t) H Q := by
  show cq P (match P.underlying t with | some d => pure d | none => stuck "no such type" : Sem TypeDesc) H _
  rw [h]; exact hq
theorem gJ {t : TypeId} {d : TypeInfo} (h : P.info? t = some d) {Q : TypeInfo → Prop} (hq : Q d) : cq P (typeInfo t) H Q := by
  show cq P (match P.info? t with | some d => pure d | none => stuck "no such type" : Sem TypeInfo) H _
  rw [h]; exact hq
theorem eJ {α : Type} (s : Sem α) {Q : α → Heap → Prop} (h : cq P s H (fun a => Q a H)) : fu P s H Q :=
  iY _ (jy _ h) fun _ _ ⟨h1, h2⟩ => by subst h2; exact h1
/-- A look-up. -/
theorem w8 {V : Type} {enc : V → Value} {l : List (Int × V)} {s kt et t u : TypeId} {x : Int} {i : TypeInfo} {z : Value} (hs : H s = some (bJ enc l)) (ht : P.underlying t = some (.map kt et)) (hk : P.underlying kt = some (.int .i64))
    (hi : P.info? et = some i) (hz : i.zero = some z) :
    cq P (opS P (.lookup t (.tmp 0) (.tmp 1) false) u [.map (some s), .int .i64 x]) H (fun n => nextL P n H (match alGet l x with | some v => enc v | none => z)) := by
  refine Ba _ ?_
  show cq P (Sem.bind (Instr.lookup t (.map (some s)) (.int .i64 x) false) fun v => (Sem.pure (Next.value v) : Sem Next)) H _
  refine gv _ _ ?_
  show cq P (Sem.bind (underlying t) _) H _
  refine gv _ _ (fh ht ?_)
  refine ⟨_, hs, rfl, ?_⟩
  show cq P (Sem.bind (Instr.checkKey _ 10000 kt (.int .i64 x)) _) H _
  refine gv _ _ (sO _ kt x hk 9999 ?_)
  show cq P (Sem.bind (Instr.findKey kt (.int .i64 x) (mapEs enc l 0)) _) H _
  obtain ⟨r, hr, hc⟩ := findNow_get enc x l 0 0
  have hfk : ∀ {Q : Option (Nat × Value) → Prop}, Q r → cq P (Instr.findKey kt (.int .i64 x) (mapEs enc l 0)) H Q := fun hq => by
    show cq P (Sem.bind (underlying kt) _) H _
    refine gv _ _ (fh hk ?_)
    rw [hr]; exact hq
  refine gv _ _ (hfk ?_)
  cases hg : alGet l x with
  | some v =>
    rw [hg] at hc
    obtain ⟨n, h1, _⟩ := hc
    rw [h1]; exact rfl
  | none =>
    rw [hg] at hc
    rw [hc]
    show cq P (Sem.bind (zeroValue et) _) H _
    refine gv _ _ ?_
    show cq P (Sem.bind (typeInfo et) _) H _
    refine gv _ _ (gJ hi ?_)
    rw [hz]; exact rfl
theorem vL {V : Type} {enc : V → Value} {l : List (Int × V)} {kt : TypeId} {x : Int} (hk : P.underlying kt = some (.int .i64)) {Q : Option (Nat × Value) → Prop}
    (h : ∀ r, (match alGet l x with | some v => ∃ n, r = some (n, enc v) ∧ n < l.length ∧ (l[n]?).map (·.1) = some x ∧ (∀ m, m < n → (l[m]?).map (·.1) ≠ some x) | none => r = none) → Q r) :
    cq P (Instr.findKey kt (.int .i64 x) (mapEs enc l 0)) H Q := by
  obtain ⟨r, hr, hc⟩ := findNow_get enc x l 0 0
  show cq P (Sem.bind (underlying kt) _) H _
  refine gv _ _ (fh hk ?_)
  rw [hr]
  refine h r ?_
  cases hg : alGet l x with
  | none => rw [hg] at hc; exact hc
  | some v => rw [hg] at hc; obtain ⟨n, h1, h2⟩ := hc; exact ⟨n, by rw [h1, Nat.zero_add], h2⟩
theorem Kb {V : Type} (enc : V → Value) (x : Int) (u : V) (l : List (Int × V)) : ∀ (n i : Nat), n < l.length → (l[n]?).map (·.1) = some x → (∀ m, m < n → (l[m]?).map (·.1) ≠ some x) →
    (mapEs enc l i).modify n (fun e => { e with key := .int .i64 x, val := enc u }) = mapEs enc (alPut l x u) i := by
  induction l with
  | nil => intro n i hn; simp at hn
  | cons p l ih =>
    intro n i hn hx hlt
    obtain ⟨k, v⟩ := p
    cases n with
    | zero =>
      simp at hx; subst hx
      simp [mapEs, alPut]
    | succ n =>
      have hne : x ≠ k := fun e => hlt 0 (by omega) (by simp [e])
      simp only [mapEs, alPut, if_neg hne, List.modify_succ_cons]
      rw [ih n (i + 1) (by simpa using hn) (by simpa using hx) fun m hm => by simpa using hlt (m + 1) (by omega)]
theorem As {V : Type} (enc : V → Value) (x : Int) (u : V) (l : List (Int × V)) : ∀ (i : Nat), alGet l x = none →
    mapEs enc l i ++ [{ key := .int .i64 x, val := enc u, born := i + l.length }] = mapEs enc (alPut l x u) i := by
  induction l with
  | nil => intro i _; simp [mapEs, alPut]
  | cons p l ih =>
    intro i h
    obtain ⟨k, v⟩ := p
    simp only [alGet] at h
    have hne : x ≠ k := fun e => by rw [if_pos e] at h; cases h
    rw [if_neg hne] at h
    simp only [mapEs, alPut, if_neg hne, List.cons_append]
    rw [← ih (i + 1) h]
    simp; omega
theorem k7 {V : Type} (x : Int) (u : V) (l : List (Int × V)) : (alPut l x u).length = match alGet l x with | some _ => l.length | none => l.length + 1 := by
  induction l with
  | nil => rfl
  | cons p l ih =>
    obtain ⟨k, v⟩ := p
    simp only [alPut, alGet]
    split
    · rfl
    · simp only [List.length_cons, ih]; cases alGet l x <;> rfl
theorem CM {x : Int} {Q : Value → Heap → Prop} (h : Q (.int .i64 x) H) : fu P (Instr.keyThatStays (.int .i64 x) (.int .i64 x)) H Q := by
  unfold Instr.keyThatStays
  rw [if_pos (by simp [Instr.sameBits])]
  exact h
theorem AW {V : Type} (enc : V → Value) (l : List (Int × V)) {x : Int} : ∀ (n i : Nat), n < l.length → (l[n]?).map (·.1) = some x → ((mapEs enc l i)[n]?).map (·.key) = some (.int .i64 x) := by
  induction l with
  | nil => intro n i hn; simp at hn
  | cons p l ih =>
    intro n i hn hx
    obtain ⟨k, v⟩ := p
    cases n with
    | zero => simp at hx; simp [mapEs, hx]
    | succ n => simp only [mapEs, List.getElem?_cons_succ]; exact ih n (i + 1) (by simpa using hn) (by simpa using hx)
theorem D9 {V : Type} (enc : V → Value) (l : List (Int × V)) : ∀ (n i : Nat), n < l.length → ((mapEs enc l i)[n]?).map (·.born) = some (i + n) := by
  induction l with
  | nil => intro n i hn; simp at hn
  | cons p l ih =>
    intro n i hn
    obtain ⟨k, v⟩ := p
    cases n with
    | zero => simp [mapEs]
    | succ n => simp only [mapEs, List.getElem?_cons_succ]; rw [ih n (i + 1) (by simpa using hn)]; congr 1; omega
/-- A store into a map. -/
theorem AO {V : Type} {enc : V → Value} {l : List (Int × V)} {s kt et t u : TypeId} {x : Int} {v : V} {Q : Next → Heap → Prop} (hs : H s = some (bJ enc l)) (ht : P.underlying t = some (.map kt et)) (hk : P.underlying kt = some (.int .i64))
    (h : Q .skip (H.set s (bJ enc (alPut l x v)))) :
    fu P (opS P (.mapUpdate t (.tmp 0) (.tmp 1) (.tmp 2)) u [.map (some s), .int .i64 x, enc v]) H Q := by
  refine xn _ ?_
  show fu P (Sem.bind (Instr.mapUpdate t (.map (some s)) (.int .i64 x) (enc v)) fun _ => (Sem.pure Next.skip : Sem Next)) H Q
  refine cf _ _ ?_
  show fu P (Sem.bind (underlying t) _) H _
  refine cf _ _ (eJ _ (fh ht ?_))
  refine ⟨_, hs, rfl, ?_⟩
  show fu P (Sem.bind (Instr.checkKey false 10000 kt (.int .i64 x)) _) H _
  refine cf _ _ (eJ _ (sO _ kt x hk 9999 ?_))
  show fu P (Sem.bind (Instr.findKey kt (.int .i64 x) (mapEs enc l 0)) _) H _
  refine cf _ _ (eJ _ (vL hk fun r hr => ?_))
  cases hg : alGet l x with
  | some w =>
    rw [hg] at hr
    obtain ⟨n, rfl, h2, h3, h4⟩ := hr
    have hkey : ((((mapEs enc l 0).toArray)[n]?).map (·.key)).getD (.int .i64 x) = .int .i64 x := by
      rw [List.getElem?_toArray, AW enc l n 0 h2 h3]; rfl
    show fu P (Sem.bind (Instr.keyThatStays ((((mapEs enc l 0).toArray)[n]?).map (·.key) |>.getD (.int .i64 x)) (.int .i64 x)) _) H _
    rw [hkey]
    refine cf _ _ (CM ?_)
    refine ⟨⟨_, hs, rfl⟩, rfl, ?_⟩
    have e : (mapEs enc l 0).toArray.modify n (fun e => { e with key := .int .i64 x, val := enc v }) = (mapEs enc (alPut l x v) 0).toArray := by
      rw [List.modify_toArray, Kb enc x v l n 0 h2 h3 h4]
    have e2 : (alPut l x v).length = l.length := by rw [k7, hg]
    show Q .skip (H.set s (.map ((mapEs enc l 0).toArray.modify n (fun e => { e with key := .int .i64 x, val := enc v })) l.length))
    rw [e, ← e2]; exact h
  | none =>
    rw [hg] at hr; subst hr
    refine ⟨⟨_, hs, rfl⟩, rfl, ?_⟩
    have e : (mapEs enc l 0).toArray.push { key := .int .i64 x, val := enc v, born := l.length } = (mapEs enc (alPut l x v) 0).toArray := by
      rw [← As enc x v l 0 hg]; simp
    have e2 : (alPut l x v).length = l.length + 1 := by rw [k7, hg]
    show Q .skip (H.set s (.map ((mapEs enc l 0).toArray.push { key := .int .i64 x, val := enc v, born := l.length }) (l.length + 1)))
    rw [e, ← e2]; exact h
theorem wE {V : Type} {enc : V → Value} {l : List (Int × V)} {s kt et t u : TypeId} {x : Int} {v : V} {k : Unit → Tree} (hs : H s = some (bJ enc l)) (ht : P.underlying t = some (.map kt et)) (hk : P.underlying kt = some (.int .i64))
    (h : wp P (k ()) L (H.set s (bJ enc (alPut l x v))) R) : wp P (.act (opS P (.mapUpdate t (.tmp 0) (.tmp 1) (.tmp 2)) u [.map (some s), .int .i64 x, enc v]) .unit k) L H R :=
  AO hs ht hk ⟨(), rfl, h⟩
/-- The place of a key. -/
def ie {V : Type} : List (Int × V) → Int → Nat
  | [], _ => 0
  | (k, _) :: l, x => if x = k then 0 else ie l x + 1
theorem Ir {V : Type} (x : Int) (l : List (Int × V)) : ∀ n, n < l.length → (l[n]?).map (·.1) = some x → (∀ m, m < n → (l[m]?).map (·.1) ≠ some x) → ie l x = n := by
  induction l with
  | nil => intro n hn; simp at hn
  | cons p l ih =>
    intro n hn hx hlt
    obtain ⟨k, v⟩ := p
    cases n with
    | zero => simp at hx; simp [ie, hx]
    | succ n =>
      have hne : x ≠ k := fun e => hlt 0 (by omega) (by simp [e])
      simp only [ie, if_neg hne]
      rw [ih n (by simpa using hn) (by simpa using hx) fun m hm => by simpa using hlt (m + 1) (by omega)]
theorem EG {V : Type} (x : Int) (l : List (Int × V)) : alGet l x = none → ie l x = l.length := by
  induction l with
  | nil => intro _; rfl
  | cons p l ih =>
    intro h
    obtain ⟨k, v⟩ := p
    simp only [alGet] at h
    have hne : x ≠ k := fun e => by rw [if_pos e] at h; cases h
    rw [if_neg hne] at h
    simp only [ie, if_neg hne, List.length_cons, ih h]
/-- The entry of a key, to be stored into. -/
theorem xj {V : Type} {enc : V → Value} {l : List (Int × V)} {s kt et t u : TypeId} {x : Int} {z : V} {i : TypeInfo} {Q : Next → Heap → Prop} (hs : H s = some (bJ enc l)) (ht : P.underlying t = some (.map kt et)) (hk : P.underlying kt = some (.int .i64))
    (hi : P.info? et = some i) (hz : i.zero = some (enc z))
    (h : Q (.value (.tuple #[enc ((alGet l x).getD z), .int .i64 (ie l x)])) (H.set s (bJ enc (alPut l x ((alGet l x).getD z))))) :
    fu P (opS P (.mapEntry t (.tmp 0) (.tmp 1)) u [.map (some s), .int .i64 x]) H Q := by
  refine xn _ ?_
  show fu P (Sem.bind (Instr.mapEntry t (.map (some s)) (.int .i64 x)) fun v => (Sem.pure (Next.value v) : Sem Next)) H Q
  refine cf _ _ ?_
  show fu P (Sem.bind (underlying t) _) H _
  refine cf _ _ (eJ _ (fh ht ?_))
  refine ⟨_, hs, rfl, ?_⟩
  show fu P (Sem.bind (Instr.checkKey false 10000 kt (.int .i64 x)) _) H _
  refine cf _ _ (eJ _ (sO _ kt x hk 9999 ?_))
  show fu P (Sem.bind (Instr.findKey kt (.int .i64 x) (mapEs enc l 0)) _) H _
  refine cf _ _ (eJ _ (vL hk fun r hr => ?_))
  cases hg : alGet l x with
  | some w =>
    rw [hg] at hr h
    obtain ⟨n, rfl, h2, h3, h4⟩ := hr
    have hkey : ((((mapEs enc l 0).toArray)[n]?).map (·.key)).getD (.int .i64 x) = .int .i64 x := by
      rw [List.getElem?_toArray, AW enc l n 0 h2 h3]; rfl
    have hborn : ((((mapEs enc l 0).toArray)[n]?).map (fun x => (x.born : Int))).getD 0 = (n : Int) := by
      have hb := D9 enc l n 0 h2
      rw [List.getElem?_toArray]
      cases hx : (mapEs enc l 0)[n]? with
      | none => rw [hx] at hb; simp at hb
      | some e => rw [hx] at hb; simp at hb; simp [hb]
    show fu P (Sem.bind (Instr.keyThatStays ((((mapEs enc l 0).toArray)[n]?).map (·.key) |>.getD (.int .i64 x)) (.int .i64 x)) _) H _
    rw [hkey]
    refine cf _ _ (CM ?_)
    refine ⟨⟨_, hs, rfl⟩, rfl, ?_⟩
    have hsame : ∀ (l : List (Int × V)) (n i : Nat), n < l.length → (l[n]?).map (·.1) = some x → (∀ m, m < n → (l[m]?).map (·.1) ≠ some x) → alGet l x = some w → (mapEs enc l i).modify n (fun e => { e with key := .int .i64 x }) = mapEs enc (alPut l x w) i := by
      intro l
      induction l with
      | nil => intro n i hn; simp at hn
      | cons p l ih =>
        intro n i hn hx hlt hgw
        obtain ⟨k, v⟩ := p
        cases n with
        | zero => simp at hx; subst hx; simp [alGet] at hgw; subst hgw; simp [mapEs, alPut]
        | succ n =>
          have hne : x ≠ k := fun e => hlt 0 (by omega) (by simp [e])
          simp only [alGet, if_neg hne] at hgw
          simp only [mapEs, alPut, if_neg hne, List.modify_succ_cons]
          rw [ih n (i + 1) (by simpa using hn) (by simpa using hx) (fun m hm => by simpa using hlt (m + 1) (by omega)) hgw]
    have e : (mapEs enc l 0).toArray.modify n (fun e => { e with key := .int .i64 x }) = (mapEs enc (alPut l x w) 0).toArray := by
      rw [List.modify_toArray, hsame l n 0 h2 h3 h4 hg]
    have e2 : (alPut l x w).length = l.length := by rw [k7, hg]
    show Q (.value (.tuple #[enc w, .int .i64 (((((mapEs enc l 0).toArray)[n]?).map (fun x => (x.born : Int))).getD 0)])) (H.set s (.map ((mapEs enc l 0).toArray.modify n (fun e => { e with key := .int .i64 x })) l.length))
    rw [hborn, e, ← e2, ← Ir x l n h2 h3 h4]; exact h
  | none =>
    rw [hg] at hr h; subst hr
    show fu P (Sem.bind (zeroValue et) _) H _
    have hzv : ∀ {Q : Value → Prop}, Q (enc z) → cq P (zeroValue et) H Q := fun hq => by
      show cq P (Sem.bind (typeInfo et) _) H _
      refine gv _ _ (gJ hi ?_)
      rw [hz]; exact hq
    refine cf _ _ (eJ _ (hzv ?_))
    refine ⟨⟨_, hs, rfl⟩, rfl, ?_⟩
    have e : (mapEs enc l 0).toArray.push { key := .int .i64 x, val := enc z, born := l.length } = (mapEs enc (alPut l x z) 0).toArray := by
      rw [← As enc x z l 0 hg]; simp
    have e2 : (alPut l x z).length = l.length + 1 := by rw [k7, hg]
    show Q (.value (.tuple #[enc z, .int .i64 (l.length : Nat)])) (H.set s (.map ((mapEs enc l 0).toArray.push { key := .int .i64 x, val := enc z, born := l.length }) (l.length + 1)))
    rw [e, ← e2, ← EG x l hg]; exact h
theorem Hk {V : Type} (x : Int) (u : V) (l : List (Int × V)) : ie (alPut l x u) x = ie l x := by
  induction l with
  | nil => simp [alPut, ie]
  | cons p l ih =>
    obtain ⟨k, v⟩ := p
    simp only [alPut]
    split
    · rename_i h; simp [ie, h]
    · rename_i h; simp only [ie, if_neg h, ih]
theorem IP {V : Type} (x : Int) (l : List (Int × V)) {w : V} : alGet l x = some w → ie l x < l.length := by
  induction l with
  | nil => intro h; cases h
  | cons p l ih =>
    intro h
    obtain ⟨k, v⟩ := p
    simp only [alGet] at h
    simp only [ie]
    split
    · simp
    · rename_i hne; rw [if_neg hne] at h; simp; exact ih h
theorem Hr {V : Type} (x : Int) (u v : V) (l : List (Int × V)) : alPut (alPut l x u) x v = alPut l x v := by
  induction l with
  | nil => simp [alPut]
  | cons p l ih =>
    obtain ⟨k, w⟩ := p
    simp only [alPut]
    split
    · rename_i h; simp [alPut, h]
    · rename_i h; simp only [alPut, if_neg h, ih]
theorem D6 {V : Type} (enc : V → Value) (l : List (Int × V)) : ∀ (n i : Nat), n < l.length → (mapEs enc l i).findIdx? (fun e => (e.born : Int) == ((i + n : Nat) : Int)) = some n := by
  induction l with
  | nil => intro n i hn; simp at hn
  | cons p l ih =>
    intro n i hn
    obtain ⟨k, v⟩ := p
    simp only [mapEs, List.findIdx?_cons]
    cases n with
    | zero => simp
    | succ n =>
      have : ((i : Int) == ((i + (n + 1) : Nat) : Int)) = false := by rw [beq_eq_false_iff_ne]; omega
      rw [this]
      have h := ih n (i + 1) (by simpa using hn)
      rw [show i + 1 + n = i + (n + 1) by omega] at h
      rw [if_neg (by decide), h]; rfl
theorem Hs {V : Type} (enc : V → Value) (x : Int) (u : V) (l : List (Int × V)) {w : V} : ∀ i, alGet l x = some w → (mapEs enc l i).modify (ie l x) (fun e => { e with val := enc u }) = mapEs enc (alPut l x u) i := by
  induction l with
  | nil => intro i h; cases h
  | cons p l ih =>
    intro i h
    obtain ⟨k, v⟩ := p
    simp only [alGet] at h
    by_cases hk : x = k
    · subst hk; simp [mapEs, alPut, ie]
    · rw [if_neg hk] at h
      simp only [mapEs, alPut, ie, if_neg hk, List.modify_succ_cons, ih (i + 1) h]
/-- A store into an entry. -/
theorem AB {V : Type} {enc : V → Value} {l : List (Int × V)} {s t u : TypeId} {x : Int} {v w : V} {Q : Next → Heap → Prop} (hs : H s = some (bJ enc l)) (hg : alGet l x = some w)
    (h : Q .skip (H.set s (bJ enc (alPut l x v)))) :
    fu P (opS P (.entryStore t (.tmp 0) (.tmp 1) (.tmp 2)) u [.map (some s), .int .i64 (ie l x), enc v]) H Q := by
  refine xn _ ?_
  show fu P (Sem.bind (Instr.entryStore t (.map (some s)) (.int .i64 (ie l x)) (enc v)) fun _ => (Sem.pure Next.skip : Sem Next)) H Q
  refine cf _ _ ?_
  refine ⟨_, hs, rfl, ?_⟩
  have hlt := IP x l hg
  have hf : (mapEs enc l 0).toArray.findIdx? (fun e => (e.born : Int) == ((ie l x : Nat) : Int)) = some (ie l x) := by
    have := D6 enc l (ie l x) 0 hlt
    rw [Nat.zero_add] at this
    rw [List.findIdx?_toArray]; exact this
  show fu P (match (mapEs enc l 0).toArray.findIdx? (fun e => (e.born : Int) == ((ie l x : Nat) : Int)) with
    | some i => setObj s (.map ((mapEs enc l 0).toArray.modify i fun e => { e with val := enc v }) l.length)
    | none => unsupported (.noEntry "instr/MapEntry.the entry is gone")) H _
  rw [hf]
  refine ⟨⟨_, hs, rfl⟩, rfl, ?_⟩
  have e : (mapEs enc l 0).toArray.modify (ie l x) (fun e => { e with val := enc v }) = (mapEs enc (alPut l x v) 0).toArray := by
    rw [List.modify_toArray, Hs enc x v l 0 hg]
  have e2 : (alPut l x v).length = l.length := by rw [k7, hg]
  show Q .skip (H.set s (.map ((mapEs enc l 0).toArray.modify (ie l x) (fun e => { e with val := enc v })) l.length))
  rw [e, ← e2]; exact h
theorem yn {V : Type} {enc : V → Value} {l : List (Int × V)} {s kt et t u : TypeId} {x : Int} {i : TypeInfo} {z : Value} {sh : Sh} {k : sh.T → Tree} {y : sh.T} (hs : H s = some (bJ enc l)) (ht : P.underlying t = some (.map kt et))
    (hk : P.underlying kt = some (.int .i64)) (hi : P.info? et = some i) (hz : i.zero = some z) (hy : (match alGet l x with | some v => enc v | none => z) = sh.fq y) (h : wp P (k y) L H R) :
    wp P (.look (opS P (.lookup t (.tmp 0) (.tmp 1) false) u [.map (some s), .int .i64 x]) sh k) L H R :=
  ⟨y, hy ▸ w8 hs ht hk hi hz, h⟩
/-- A map is emptied. -/
theorem JL {s t u : TypeId} {es : Array MapEntry} {n : Nat} {k : Unit → Tree} {d : TypeDesc} (hs : H s = some (.map es n)) (ht : P.underlying t = some d) (h : wp P (k ()) L (H.set s (.map #[] n)) R) :
    wp P (.act (opS P (.call { callee := .builtin .clear, args := #[.tmp 0], argTypes := #[t] }) u [.map (some s)]) .unit k) L H R := by
  refine xn _ ?_
  simp only [execOp, resolve, invoke, builtin, envOf, List.map_toArray, List.map_cons, List.map_nil, List.getD_cons_zero, bind, pure, Sem.bind]
  unfold Builtin.clear_
  simp only [bind, pure, Sem.bind, List.getElem?_toArray, List.getElem?_cons_zero]
  refine cf _ _ ?_
  refine cf _ _ (eJ _ (fh ht ?_))
  refine ⟨_, hs, rfl, ?_⟩
  refine ⟨⟨_, hs, rfl⟩, rfl, ?_⟩
  exact ⟨(), rfl, h⟩
end
end Go.Fw
/- Slices: made, cut, appended to. -/
namespace Go.Fw
open Go
section
variable {P : Program} {L : aZ} {H : Heap} {R : Value → Heap → Prop}
/-- A meaning that comes to a, without memory. -/
def apure (P : Program) {α : Type} : Sem α → α → Prop
  | .pure u, a => u = a
  | .program k, a => apure P (k P) a
  | .mark _ k, a => apure P k a
  | _, _ => False
theorem Fh {α : Type} (s : Sem α) (k : α → Sem Next) {a : α} {o : Obj} {val : Nat → Value} : apure P s a → amake P (k a) o val → amake P (s.bind k) o val := by
  induction s with
  | pure u => intro h hk; simp only [apure] at h; subst h; exact hk
  | program j ih => intro h hk; exact ih P h hk
  | mark m j ih => intro h hk; exact ih h hk
  | _ => intro h; exact h.elim
theorem D5 {α β : Type} (s : Sem α) (k : α → Sem β) {a : α} {b : β} : apure P s a → apure P (k a) b → apure P (s.bind k) b := by
  induction s with
  | pure u => intro h hk; simp only [apure] at h; subst h; exact hk
  | program j ih => intro h hk; exact ih P h hk
  | mark m j ih => intro h hk; exact ih h hk
  | _ => intro h; exact h.elim
theorem IQ (s : Sem Next) {v : Value} : amade P s v → amade P (nf P s) v := by
  induction s with
  | pure a => intro h; exact h
  | program k ih => intro h; exact ih P h
  | mark m k ih => intro h; exact ih h
  | _ => intro h; exact h.elim
theorem JO (s : Sem Next) {o : Obj} {val : Nat → Value} : amake P s o val → amake P (nf P s) o val := by
  induction s with
  | new o' k ih => intro h; exact ⟨h.1, fun b => IQ _ (h.2 b)⟩
  | program k ih => intro h; exact ih P h
  | mark m k ih => intro h; exact ih h
  | _ => intro h; exact h.elim
theorem AM {t : TypeId} {d : TypeInfo} (h : P.info? t = some d) : apure P (typeInfo t) d := by
  show apure P (match P.info? t with | some d => pure d | none => stuck "no such type" : Sem TypeInfo) _
  rw [h]; exact rfl
theorem zm (n : Nat) (z : Value) : (Array.range n).map (fun i => (#[z] : Array Value)[i % (#[z] : Array Value).size]!) = Array.replicate n z := by
  apply Array.ext
  · simp
  · intro i h1 h2; simp [Nat.mod_one]
/-- A slice is made, of one-cell elements. -/
theorem make_slice {t u e : TypeId} {n : Int} {i : TypeInfo} {z : Value} (ht : P.underlying t = some (.slice e)) (hi : P.info? e = some i) (h1 : i.size = 1) (hb : i.bytes ≤ 8) (hz : i.zero = some z) (hc : z.cells = #[z]) (h0 : 0 ≤ n) (hn : n ≤ 1048576) :
    amake P (opS P (.makeSlice t (.tmp 0) (.tmp 1)) u [.int .i64 n, .int .i64 n]) (.cells (Array.replicate n.toNat z) e) (fun b => .slice (some ⟨b, 0, none⟩) n.toNat n.toNat) := by
  refine JO _ ?_
  show amake P (Sem.bind (Instr.makeSlice t (.int .i64 n) (.int .i64 n)) fun v => (Sem.pure (Next.value v) : Sem Next)) _ _
  have hw : IntKind.i64.wrap n = n := aE (by omega) (by omega)
  have hbn : (i.bytes : Int) * n ≤ 8388608 := by
    have : (i.bytes : Int) * n ≤ 8 * n := Int.mul_le_mul_of_nonneg_right (by omega) h0
    omega
  have hb1 : ¬ n < 0 := by omega
  have hb2 : ¬ (i.bytes : Int) * n > 2 ^ 48 := by omega
  have hz1 : ∀ (k : Value → Sem Next) (o : Obj) (val : Nat → Value), amake P (k z) o val → amake P (Sem.bind (zeroValue e) k) o val := fun k o val h =>
    Fh _ _ (D5 _ _ (AM hi) (by rw [hz]; exact rfl)) h
  simp only [Instr.makeSlice, underlying, program, bind, pure, Sem.bind, amake, ht, asInt, asIntOf, typeInfo, hi, hw, hb1, hb2, decide_false, Bool.or_self, Bool.false_eq_true, if_false, gt_iff_lt, Int.lt_irrefl]
  have hroom : askRoom (n.toNat * i.bytes) = Sem.pure () := by
    unfold askRoom
    rw [if_neg (by
      have : n.toNat * i.bytes ≤ 1048576 * 8 := Nat.mul_le_mul (by omega) hb
      unfold roomBytes; omega)]; rfl
  rw [hroom]
  have hrow : ∀ cs, newRow e cs = Sem.new (.cells cs e) fun b => Sem.pure ⟨b, 0, none⟩ := fun _ => rfl
  simp only [Sem.bind, sizeOf, typeInfo, program, bind, pure, amake, hi, h1, Nat.mul_one]
  by_cases hn0 : n.toNat = 0
  · rw [if_pos hn0]
    simp only [hrow, Sem.bind, hn0]
    exact ⟨⟨by simp, rfl⟩, fun b => rfl⟩
  · rw [if_neg hn0]
    have hzv : zeroValue e = Sem.bind (typeInfo e) (fun i => match i.zero with | some v => Sem.pure v | none => unsupported (.resourceLimit "a value of more than 2^22 cells")) := rfl
    simp only [hzv, hrow, Sem.bind, typeInfo, program, bind, pure, amake, hi, hz, hc, zm]
    exact ⟨⟨trivial, rfl⟩, fun b => rfl⟩
theorem zq {s : Sem Next} {sh : Sh} {k : sh.T → Tree} {o : Obj} {val : Nat → Value} {x : Nat → sh.T} (hm : amake P s o val) (hx : ∀ b, val b = sh.fq (x b)) (h : ∀ b, H b = none → wp P (k (x b)) L (H.set b o) R) :
    wp P (.make s sh k) L H R := ⟨o, val, hm, fun b hb => ⟨x b, hx b, h b hb⟩⟩
theorem EY {t u e : TypeId} {a : Option Addr} {len cap : Nat} {lo hi : Int} {i : TypeInfo} (ht : P.underlying t = some (.slice e)) (hi' : P.info? e = some i) (h1 : i.size = 1) (h0 : 0 ≤ lo) (hlh : lo ≤ hi) (hc : hi ≤ cap) :
    opS P (.slice t (.tmp 0) (some (.tmp 1)) (some (.tmp 2)) (some (.tmp 3))) u [.slice a len cap, .int .i64 lo, .int .i64 hi, .int .i64 hi] =
      .pure (.value (.slice (if hi.toNat = lo.toNat then a else a.map (·.add lo.toNat)) (hi.toNat - lo.toNat) (hi.toNat - lo.toNat))) := by
  have e1 : (0 ≤ hi ∧ hi ≤ (cap : Int)) := by omega
  have e2 : (0 ≤ hi ∧ hi ≤ (hi.toNat : Int)) := by omega
  have e3 : (0 ≤ lo ∧ lo ≤ (hi.toNat : Int)) := by omega
  simp only [opS, execOp, envOf, List.getD_cons_zero, List.getD_cons_succ, Option.map_some, Instr.sliceAt, Instr.slice, Instr.sliceBounds, Instr.sliceBound, asIntOf, underlying, program, bind, pure, Sem.bind, nf, ht, e1, e2, e3, and_self, if_true,
    sizeOf, typeInfo, hi', h1, Nat.mul_one]
theorem pv {t u e : TypeId} {a : Option Addr} {len cap : Nat} {lo : Int} {i : TypeInfo} (ht : P.underlying t = some (.slice e)) (hi' : P.info? e = some i) (h1 : i.size = 1) (h0 : 0 ≤ lo) (hc : lo ≤ len) :
    opS P (.slice t (.tmp 0) (some (.tmp 1)) none none) u [.slice a len cap, .int .i64 lo] = .pure (.value (.slice (if cap = lo.toNat then a else a.map (·.add lo.toNat)) (len - lo.toNat) (cap - lo.toNat))) := by
  have e1 : (0 ≤ lo ∧ lo ≤ (len : Int)) := by omega
  simp [opS, execOp, envOf, Instr.sliceAt, Instr.slice, Instr.sliceBounds, Instr.sliceBound, asIntOf, underlying, program, bind, pure, Sem.bind, nf, ht, e1, sizeOf, typeInfo, hi', h1]
end
end Go.Fw
/- Append of one, of one-cell elements. -/
namespace Go.Fw
open Go
section
variable {P : Program} {L : aZ} {H : Heap} {R : Value → Heap → Prop}
theorem Bc (n : Nat) : ∀ (r c : Nat), Builtin.growBy n r c ≤ (c + 768) * 2 ^ r
  | 0, c => by unfold Builtin.growBy; omega
  | r + 1, c => by
    unfold Builtin.growBy
    have h := Bc n r (c + (c + 768) / 4)
    have h1 : (c + (c + 768) / 4 + 768) * 2 ^ r ≤ (c + 768) * 2 * 2 ^ r := Nat.mul_le_mul_right _ (by omega)
    have h2 : (c + 768) * 2 ^ (r + 1) = (c + 768) * 2 * 2 ^ r := by rw [Nat.pow_succ]; rw [Nat.mul_comm (2 ^ r) 2, Nat.mul_assoc]
    have h3 : c + 768 ≤ (c + 768) * 2 ^ (r + 1) := Nat.le_mul_of_pos_right _ (Nat.two_pow_pos _)
    split <;> omega
theorem nextslicecap_le (n c : Nat) : Builtin.nextslicecap n c ≤ n + 16 * (c + 768) := by
  have h : Builtin.growBy n 4 c ≤ (c + 768) * 16 := Bc n 4 c
  by_cases h1 : n > 2 * c
  · have : Builtin.nextslicecap n c = n := by unfold Builtin.nextslicecap; rw [if_pos h1]
    omega
  · by_cases h2 : c < 256
    · have : Builtin.nextslicecap n c = 2 * c := by unfold Builtin.nextslicecap; rw [if_neg h1, if_pos h2]
      omega
    · have : Builtin.nextslicecap n c = Builtin.growBy n 4 c := by unfold Builtin.nextslicecap; rw [if_neg h1, if_neg h2]
      omega
theorem run_askRoom {n : Nat} {Q : Unit → Heap → Prop} (h : Q () H) : fu P (askRoom n) H Q := by unfold askRoom; split; exact h; exact h
end
end Go.Fw
/- Append of any many, of elements of any size. -/
namespace Go.Fw
open Go
section
variable {P : Program} {L : aZ} {H : Heap} {R : Value → Heap → Prop}
/-- Cells one behind the other. -/
def Row (H : Heap) (a : Option Addr) (cs : List Value) : Prop := ∀ i, i < cs.length → ∃ x, a = some x ∧ H.cell? (x.add i) = cs[i]?
theorem vO {x : Addr} {cs : List Value} {Q : Array Value → Prop} : ∀ (m i : Nat) (acc : Array Value), i + m = cs.length → (∀ j, j < cs.length → H.cell? (x.add j) = cs[j]?) →
    Q (acc ++ (cs.drop i).toArray) → cq P (loadCellsFrom x i m acc) H Q
  | 0, i, acc, hm, _, h => by
    have e : acc ++ (cs.drop i).toArray = acc := by rw [List.drop_eq_nil_of_le (by omega)]; simp
    rw [e] at h; exact h
  | m + 1, i, acc, hm, hc, h => by
    have hlt : i < cs.length := by omega
    refine ⟨cs[i], by rw [hc i hlt]; simp [hlt], ?_⟩
    refine vO m (i + 1) (acc.push cs[i]) (by omega) hc ?_
    have e : acc ++ (cs.drop i).toArray = acc.push cs[i] ++ (cs.drop (i + 1)).toArray := by
      rw [List.drop_eq_getElem_cons hlt]
      apply Array.ext'; simp
    rw [← e]; exact h
theorem uF {a : Option Addr} {cs : List Value} {n size l c : Nat} {Q : Array Value → Prop} (hr : Row H a cs) (hl : cs.length = n * size) (h : Q cs.toArray) : cq P (Builtin.firstCells size n (.slice a l c)) H Q := by
  cases a with
  | none =>
    have : cs = [] := by
      cases cs with
      | nil => rfl
      | cons v cs => obtain ⟨x, hx, _⟩ := hr 0 (by simp); cases hx
    subst this; exact h
  | some x =>
    refine vO (cs := cs) (n * size) 0 #[] (by omega) (fun j hj => ?_) (by simpa using h)
    obtain ⟨y, hy, hc⟩ := hr j hj
    cases hy; exact hc
theorem uW {b n T : Nat} {Q : Unit → Heap → Prop} : ∀ (vs : List Value) (i : Nat) (c : Array Value) (H : Heap), H b = some (.cells c T (0, 0)) → n + i + vs.length ≤ c.size → (∀ v ∈ vs, Value.single v = true) →
    Q () (H.set b (.cells (putAll c (n + i) vs) T (0, 0))) → fu P (storeCells ⟨b, n, none⟩ vs i) H Q
  | [], i, c, H, hb, _, _, h => by
    show Q () H
    rw [← Heap.qP hb]; exact h
  | v :: vs, i, c, H, hb, hn, hs, h => by
    simp only [List.length_cons] at hn
    have hlt : n + i < c.size := by omega
    have hc : H.cell? ((Addr.mk b n none).add i) = some c[n + i] := by rw [Addr.gF, Heap.cell_of hb]; simp [hlt]
    show fu P (Sem.bind (Sem.store .plain ((Addr.mk b n none).add i) v (Sem.pure ())) fun _ => storeCells ⟨b, n, none⟩ vs (i + 1)) H Q
    refine ⟨hs v List.mem_cons_self, ⟨_, hc⟩, by rw [Addr.gF]; exact Heap.xx hb _, ?_⟩
    rw [pO hc, Addr.gF]
    show fu P (storeCells ⟨b, n, none⟩ vs (i + 1)) (H.set b (Obj.put ⟨b, n + i, none⟩ v (H.get b))) Q
    rw [Heap.EF hb, xI]
    refine uW vs (i + 1) (c.setIfInBounds (n + i) v) _ (Heap.bx _ _ _) (by simp; omega) (fun u hu => hs u (List.mem_cons_of_mem _ hu)) ?_
    rw [Heap.set_set]; exact h
theorem Fg {sT u e : TypeId} {a ta : Option Addr} {len cap n tcap : Nat} {old new : List Value} {info : TypeInfo} {z : Value} {Q : Next → Heap → Prop} (hs : P.underlying sT = some (.slice e)) (hi : P.info? e = some info)
    (hbt : info.bytes ≤ 64) (hby : info.bytes ≠ 0) (hz : info.zero = some z) (hzc : z.cells.size = info.size) (hold : Row H a old) (hol : old.length = len * info.size) (hnew : Row H ta new) (hnl : new.length = n * info.size) (hm : len + n ≤ 1048576)
    (hin : len + n ≤ cap → (n = 0 ∧ Q (.value (.slice a len cap)) H) ∨ ∃ b c T, a = some ⟨b, 0, none⟩ ∧ H b = some (.cells c T (0, 0)) ∧ (len + n) * info.size ≤ c.size ∧ (∀ v ∈ new, Value.single v = true) ∧ Q (.value (.slice a (len + n) cap)) (H.set b (.cells (putAll c (len * info.size) new) T (0, 0))))
    (hout : cap < len + n → ∀ (b : Nat) (rest : List Value) (r : Nat), H b = none → rest.length = r * info.size → Q (.value (.slice (some ⟨b, 0, none⟩) (len + n) (len + n + r))) (H.set b (.cells (old ++ new ++ rest).toArray e (0, 0)))) :
    fu P (opS P (.call { callee := .builtin .append, args := #[.tmp 0, .tmp 1], argTypes := #[sT, sT] }) u [.slice a len cap, .slice ta n tcap]) H Q := by
  refine xn _ ?_
  simp only [execOp, resolve, invoke, builtin, envOf, List.map_toArray, List.map_cons, List.map_nil, List.getD_cons_zero, List.getD_cons_succ, bind, pure, Sem.bind]
  unfold Builtin.append_
  simp only [bind, pure, Sem.bind, List.getElem?_toArray, List.getElem?_cons_zero, List.getElem?_cons_succ]
  refine cf _ _ ?_
  refine cf _ _ (eJ _ (fh hs ?_))
  refine cf _ _ (cf _ _ (eJ _ (gJ hi ?_)))
  refine cf _ _ (eJ _ (fh hs ?_))
  simp only [Bool.false_eq_true, if_false, Builtin.lenOf, pure, Sem.bind, Bool.not_false, if_true]
  by_cases hc : len + n ≤ cap
  · rw [if_pos hc]
    refine cf _ _ (eJ _ (uF hnew hnl ?_))
    rcases hin hc with ⟨h0, hq⟩ | ⟨b, c, T, rfl, hb, hsz, hv, hq⟩
    · subst h0
      have : new = [] := List.eq_nil_of_length_eq_zero (by simpa using hnl)
      subst this
      cases a with
      | none => exact hq
      | some x => exact hq
    · show fu P ((storeCells ((Addr.mk b 0 none).add (len * info.size)) new).bind fun _ => Sem.pure (Value.slice (some ⟨b, 0, none⟩) (len + n) cap)) H _
      refine cf _ _ ?_
      rw [Addr.gF, Nat.zero_add]
      refine uW new 0 c H hb ?_ hv ?_
      · rw [hnl, Nat.add_zero, ← Nat.add_mul]; exact hsz
      · exact hq
  · rw [if_neg hc]
    refine cf _ _ (eJ _ (gJ hi ?_))
    rw [if_neg (by simp [hby])]
    refine cf _ _ (eJ _ (gJ hi ?_))
    have hn := nextslicecap_le (len + n) cap
    have hmul : Builtin.nextslicecap (len + n) cap * info.bytes ≤ (len + n + 16 * (cap + 768)) * 64 := Nat.mul_le_mul hn hbt
    rw [if_neg (by
      have : (2 : Nat) ^ 48 = 281474976710656 := by decide
      omega)]
    refine ⟨fun hf => by simp [Question.forced] at hf, fun _ t => ?_⟩
    show fu P (Sem.bind (typeInfo e) fun i => Sem.bind (askRoom ((len + n + t % (2 ^ 63 - (len + n))) * i.bytes)) fun _ =>
      Sem.bind (Builtin.firstCells info.size len (Value.slice a len cap)) fun old =>
      Sem.bind (Builtin.firstCells info.size n (Value.slice ta n tcap)) fun new =>
      Sem.bind (zeroValue e) fun zv => Sem.bind (newRow e (old ++ new ++ Builtin.zeroCells zv.cells (len + n + t % (2 ^ 63 - (len + n)) - (len + n)))) fun p => Sem.pure (Value.slice (some p) (len + n) (len + n + t % (2 ^ 63 - (len + n))))) H _
    generalize t % (2 ^ 63 - (len + n)) = r
    refine cf _ _ (eJ _ (gJ hi ?_))
    refine cf _ _ (run_askRoom ?_)
    refine cf _ _ (eJ _ (uF hold hol ?_))
    refine cf _ _ (eJ _ (uF hnew hnl ?_))
    refine cf _ _ ?_
    show fu P (Sem.bind (typeInfo e) _) H _
    refine cf _ _ (eJ _ (gJ hi ?_))
    rw [hz]
    show fu P (Sem.bind (newRow e (old.toArray ++ new.toArray ++ Builtin.zeroCells z.cells (len + n + r - (len + n)))) _) H _
    refine cf _ _ ?_
    refine ⟨rfl, fun b hb => ?_⟩
    have e1 : len + n + r - (len + n) = r := by omega
    have hsz : (Builtin.zeroCells z.cells r).toList.length = r * info.size := by
      unfold Builtin.zeroCells; rw [hzc]; simp
    have := hout (by omega) b (Builtin.zeroCells z.cells r).toList r hb hsz
    rw [e1]
    have e2 : (old ++ new ++ (Builtin.zeroCells z.cells r).toList).toArray = old.toArray ++ new.toArray ++ Builtin.zeroCells z.cells r := by apply Array.ext'; simp
    rw [e2] at this
    exact this
end
end Go.Fw
/- Append in place, of a slice that begins somewhere in its block. -/
set_option linter.unusedVariables false
namespace Go.Fw
open Go
section
variable {P : Program} {L : aZ} {H : Heap} {R : Value → Heap → Prop}
end
end Go.Fw
/- From what is said of views to what a row asks. -/
namespace Go.Fw
open Go Go.RowKit
/-- All blocks of a world. -/
def A0 (w : World) : Heap := fun b => w.heap[b]?
theorem Hj (w : World) : dF w w (A0 w) := ⟨fun _ _ h => h, rfl, rfl, Nat.le_refl _, fun a ha => by
  unfold World.frozen?
  rw [Array.getElem?_eq_none ha], rfl⟩
theorem Kc {w w' : World} {H' : Heap} (h : dF w w' H') (hl : (A0 w).le H') : Below w.heap.size w w' :=
  ⟨h.os, h.tape, h.output, h.size, fun i hi => by
    have e : w.heap[i]? = some w.heap[i] := by simp [hi]
    rw [h.blk i _ (hl i _ e), e]⟩
theorem calls_below {P : Program} {f : FuncId} {args : List Value} {w : World} {v : Value} (h : Det P f args (A0 w) v (A0 w)) :
    Calls P f args.toArray w fun e w' => e = .returned v ∧ Below w.heap.size w w' :=
  (h w w (Hj w)).mono fun e w' ⟨u, K, he, hh, hu, hl⟩ => ⟨by rw [he, hu], Kc hh (by rw [hl]; exact Heap.le_refl _)⟩
theorem all_cell {w : World} {a : Addr} {v : Value} (h : w.cell? a = some v) : (A0 w).cell? a = some v := by
  unfold World.cell? at h
  unfold Heap.cell? A0
  exact h
end Go.Fw

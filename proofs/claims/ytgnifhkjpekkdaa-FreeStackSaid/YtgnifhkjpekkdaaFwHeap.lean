/- A view of memory: some blocks by number, each as it is. What an operation's meaning does, said of such a view. -/
import Derived.Tactics
import Derived.Deep.Quiet
import Derived.Scope
namespace Go.Fw
open Go

/-- Some of the blocks. -/
abbrev Heap := Nat → Option Obj

/-- The world holds these blocks; since w0 nothing outside of memory has turned, and no new block is frozen. -/
structure Holds (w0 w : World) (H : Heap) : Prop where
  blk : ∀ b o, H b = some o → w.heap[b]? = some o
  os : w.os = w0.os
  output : w.output = w0.output
  size : w0.heap.size ≤ w.heap.size
  soft : ∀ a : Addr, w0.heap.size ≤ a.block → w.frozen? a = false
  tape : w.tape = w0.tape

def Heap.set (H : Heap) (b : Nat) (o : Obj) : Heap := fun c => if c = b then some o else H c

def Heap.le (H K : Heap) : Prop := ∀ b o, H b = some o → K b = some o

def Heap.cell? (H : Heap) (a : Addr) : Option Value :=
  match H a.block with
  | some (.cells c _ _) => if a.spot.isSome then none else c[a.off]?
  | _ => none

def Heap.frozen? (H : Heap) (a : Addr) : Bool :=
  match H a.block with
  | some (.cells _ _ (lo, hi)) => lo ≤ a.off && a.off < hi
  | _ => false

def Heap.shape? (H : Heap) (r : Nat) : Option (TypeId × Nat) :=
  match H r with
  | some (.cells c elem _) => some (elem, c.size)
  | _ => none

def Obj.put (a : Addr) (v : Value) : Obj → Obj
  | .cells c elem frozen => .cells (if a.spot.isSome then c else c.setIfInBounds a.off v) elem frozen
  | o => o

def Heap.setCell (H : Heap) (a : Addr) (v : Value) : Heap := fun c => if c = a.block then (H c).map (Obj.put a v) else H c

def Obj.isCells : Obj → Bool
  | .cells .. => true
  | _ => false

def Obj.plain : Obj → Bool
  | .cells _ _ fr => fr.1 == 0 && fr.2 == 0
  | _ => true

def Value.single : Value → Bool
  | .agg _ | .tuple _ => false
  | _ => true

/-- What a meaning does to a view: wherever it goes, it ends, and Q. -/
def arun (P : Program) {α : Type} : Sem α → Heap → (α → Heap → Prop) → Prop
  | .pure a, H, Q => Q a H
  | .load _ a k, H, Q => ∃ v, H.cell? a = some v ∧ arun P (k v) H Q
  | .store _ a v k, H, Q => Value.single v = true ∧ (∃ u, H.cell? a = some u) ∧ H.frozen? a = false ∧ arun P k (H.setCell a v) Q
  | .new o k, H, Q => Obj.plain o = true ∧ ∀ b, H b = none → arun P (k b) (H.set b o) Q
  | .shape r k, H, Q => (∃ o, H r = some o) ∧ arun P (k (H.shape? r)) H Q
  | .freeze _ _ _, _, _ => False
  | .frozen a k, H, Q => (∃ o, H a.block = some o) ∧ arun P (k (H.frozen? a)) H Q
  | .getObj r k, H, Q => ∃ o, H r = some o ∧ Obj.isCells o = false ∧ arun P (k o) H Q
  | .setObj r o k, H, Q => (∃ o', H r = some o' ∧ Obj.isCells o' = false) ∧ Obj.isCells o = false ∧ arun P k (H.set r o) Q
  | .choose q k, H, Q => (q.forced = true → arun P (k 0) H Q) ∧ (q.forced = false → ∀ t, arun P (k (q.cut t)) H Q)
  | .sys _ _, _, _ => False
  | .program k, H, Q => arun P (k P) H Q
  | .mark _ k, H, Q => arun P k H Q
  | .halt _, _, _ => False

/-- What a meaning that only looks comes to. -/
def astill (P : Program) {α : Type} : Sem α → Heap → (α → Prop) → Prop
  | .pure a, _, Q => Q a
  | .load _ a k, H, Q => ∃ v, H.cell? a = some v ∧ astill P (k v) H Q
  | .shape r k, H, Q => (∃ o, H r = some o) ∧ astill P (k (H.shape? r)) H Q
  | .frozen a k, H, Q => (∃ o, H a.block = some o) ∧ astill P (k (H.frozen? a)) H Q
  | .getObj r k, H, Q => ∃ o, H r = some o ∧ Obj.isCells o = false ∧ astill P (k o) H Q
  | .program k, H, Q => astill P (k P) H Q
  | .mark _ k, H, Q => astill P k H Q
  | _, _, _ => False

theorem Holds.cell {w0 w : World} {H : Heap} (h : Holds w0 w H) {a : Addr} {v : Value} (hc : H.cell? a = some v) : w.cell? a = some v := by
  unfold Heap.cell? at hc
  unfold World.cell?
  split at hc
  · rename_i c t f he; rw [h.blk _ _ he]; exact hc
  · cases hc

theorem Holds.frozen {w0 w : World} {H : Heap} (h : Holds w0 w H) {a : Addr} {o : Obj} (ho : H a.block = some o) : w.frozen? a = H.frozen? a := by
  unfold Heap.frozen? World.frozen?
  rw [ho, h.blk _ _ ho]
  rfl

theorem Holds.shape {w0 w : World} {H : Heap} (h : Holds w0 w H) {r : Nat} {o : Obj} (ho : H r = some o) : w.shape? r = H.shape? r := by
  unfold Heap.shape? World.shape?
  rw [ho, h.blk _ _ ho]
  rfl

theorem frozen_setCell (w : World) (a : Addr) (v : Value) (c : Addr) : (w.setCell a v).frozen? c = w.frozen? c := by
  unfold World.frozen? World.setCell
  simp only [Array.getElem?_modify]
  by_cases hb : a.block = c.block
  · rw [if_pos hb]
    cases w.heap[c.block]? with
    | none => rfl
    | some o => cases o <;> rfl
  · rw [if_neg hb]

theorem Holds.setCell {w0 w : World} {H : Heap} (h : Holds w0 w H) (a : Addr) (v : Value) : Holds w0 (w.setCell a v) (H.setCell a v) := by
  refine ⟨?_, h.os, h.output, by simp only [World.setCell, Array.size_modify]; exact h.size, fun c hc => by rw [frozen_setCell]; exact h.soft c hc, h.tape⟩
  intro b o ho
  unfold Heap.setCell at ho
  unfold World.setCell
  simp only [Array.getElem?_modify]
  by_cases hb : b = a.block
  · rw [if_pos hb] at ho
    rw [if_pos hb.symm]
    cases hH : H b with
    | none => rw [hH] at ho; cases ho
    | some o' =>
      rw [hH] at ho
      rw [h.blk _ _ hH]
      simp only [Option.map_some, Option.some.injEq] at ho ⊢
      rw [← ho]
      cases o' <;> rfl
  · rw [if_neg hb] at ho
    rw [if_neg (fun e => hb e.symm)]
    exact h.blk _ _ ho

theorem Holds.new {w0 w : World} {H : Heap} (h : Holds w0 w H) {o : Obj} (hp : Obj.plain o = true) : H w.heap.size = none ∧ Holds w0 { w with heap := w.heap.push o } (H.set w.heap.size o) := by
  constructor
  · cases hH : H w.heap.size with
    | none => rfl
    | some o' => have := h.blk _ _ hH; simp at this
  · refine ⟨?_, h.os, h.output, by simp only [Array.size_push]; have := h.size; omega, ?_, h.tape⟩
    · intro b o' ho
      unfold Heap.set at ho
      simp only [Array.getElem?_push]
      split at ho
      · rename_i e; subst e; simpa using ho
      · rename_i e
        have := h.blk _ _ ho
        simpa [e] using this
    · intro a ha
      have hs := h.soft a ha
      unfold World.frozen? at hs ⊢
      simp only [Array.getElem?_push]
      split
      · rename_i c t lo hi he
        split at he
        · rename_i e
          simp only [Option.some.injEq] at he
          subst he
          simp only [Obj.plain, Bool.and_eq_true, beq_iff_eq] at hp
          rw [hp.1, hp.2]; simp
        · rename_i e
          rw [he] at hs; exact hs
      · rfl

theorem Holds.setObj {w0 w : World} {H : Heap} (h : Holds w0 w H) {r : Nat} {o' : Obj} (hr : H r = some o') {o : Obj} (hn : Obj.isCells o = false) : Holds w0 { w with heap := w.heap.setIfInBounds r o } (H.set r o) := by
  refine ⟨?_, h.os, h.output, by simp only [Array.size_setIfInBounds]; exact h.size, ?_, h.tape⟩
  · intro b o'' ho
    unfold Heap.set at ho
    simp only [Array.getElem?_setIfInBounds]
    have hlt := (Array.getElem?_eq_some_iff.1 (h.blk _ _ hr)).1
    split at ho
    · rename_i e; subst e; simpa [hlt] using ho
    · rename_i e
      rw [if_neg (fun e' => e e'.symm)]
      exact h.blk _ _ ho
  · intro a ha
    have hs := h.soft a ha
    unfold World.frozen? at hs ⊢
    simp only [Array.getElem?_setIfInBounds]
    split
    · rename_i c t lo hi he
      split at he
      · split at he
        · simp only [Option.some.injEq] at he; subst he; simp [Obj.isCells] at hn
        · cases he
      · rw [he] at hs; exact hs
    · rfl

theorem Holds.drawn {w0 w : World} {H : Heap} (h : Holds w0 w H) (n : Nat) : Holds w0 { w with drawn := n } H := ⟨h.blk, h.os, h.output, h.size, h.soft, h.tape⟩

theorem Holds.le {w0 w : World} {H K : Heap} (h : Holds w0 w K) (hl : H.le K) : Holds w0 w H := ⟨fun b o ho => h.blk b o (hl b o ho), h.os, h.output, h.size, h.soft, h.tape⟩

theorem arun_sound (P : Program) {w0 : World} {α : Type} (s : Sem α) : ∀ (H : Heap) (Q : α → Heap → Prop) (w : World), Holds w0 w H → arun P s H Q →
    ∃ a w' H', s.run P w = .ok a w' ∧ Holds w0 w' H' ∧ Q a H' := by
  induction s with
  | pure a => intro H Q w hw h; exact ⟨a, w, H, rfl, hw, h⟩
  | load m a k ih =>
    intro H Q w hw h
    obtain ⟨v, hc, h⟩ := h
    obtain ⟨x, w', H', hr, hh, hq⟩ := ih v H Q w hw h
    exact ⟨x, w', H', by simp only [Sem.run, hw.cell hc]; exact hr, hh, hq⟩
  | store m a v k ih =>
    intro H Q w hw h
    obtain ⟨hs, ⟨u, hc⟩, hf, h⟩ := h
    obtain ⟨x, w', H', hr, hh, hq⟩ := ih _ Q _ (hw.setCell a v) h
    refine ⟨x, w', H', ?_, hh, hq⟩
    have hfz : w.frozen? a = false := by
      unfold Heap.cell? at hc
      split at hc
      · rename_i c t f he; rw [hw.frozen he]; exact hf
      · cases hc
    cases v <;> first | (simp only [Value.single] at hs; cases hs; done) | (simp only [Sem.run, hw.cell hc, hfz, Bool.false_eq_true, if_false]; exact hr)
  | new o k ih =>
    intro H Q w hw h
    obtain ⟨h0, h1⟩ := hw.new h.1
    obtain ⟨x, w', H', hr, hh, hq⟩ := ih _ _ Q _ h1 (h.2 _ h0)
    exact ⟨x, w', H', hr, hh, hq⟩
  | shape r k ih =>
    intro H Q w hw h
    obtain ⟨⟨o, ho⟩, h⟩ := h
    obtain ⟨x, w', H', hr, hh, hq⟩ := ih _ _ Q _ hw h
    exact ⟨x, w', H', by simp only [Sem.run, hw.shape ho]; exact hr, hh, hq⟩
  | freeze a n k ih => intro H Q w hw h; exact h.elim
  | frozen a k ih =>
    intro H Q w hw h
    obtain ⟨⟨o, ho⟩, h⟩ := h
    obtain ⟨x, w', H', hr, hh, hq⟩ := ih _ _ Q _ hw h
    exact ⟨x, w', H', by simp only [Sem.run, hw.frozen ho]; exact hr, hh, hq⟩
  | getObj r k ih =>
    intro H Q w hw h
    obtain ⟨o, ho, hn, h⟩ := h
    obtain ⟨x, w', H', hr, hh, hq⟩ := ih _ _ Q _ hw h
    refine ⟨x, w', H', ?_, hh, hq⟩
    simp only [Sem.run, hw.blk _ _ ho]
    cases o <;> first | (simp only [Obj.isCells] at hn; cases hn; done) | exact hr
  | setObj r o k ih =>
    intro H Q w hw h
    obtain ⟨⟨o', ho, hn⟩, hn2, h⟩ := h
    obtain ⟨x, w', H', hr, hh, hq⟩ := ih _ Q _ (hw.setObj ho hn2) h
    refine ⟨x, w', H', ?_, hh, hq⟩
    simp only [Sem.run, hw.blk _ _ ho]
    cases o' <;> first | (simp only [Obj.isCells] at hn; cases hn; done) | exact hr
  | choose q k ih =>
    intro H Q w hw h
    cases hq : q.forced with
    | true =>
      obtain ⟨x, w', H', hr, hh, hq'⟩ := ih _ _ Q _ hw (h.1 hq)
      exact ⟨x, w', H', by simp only [Sem.run, hq, if_true]; exact hr, hh, hq'⟩
    | false =>
      obtain ⟨x, w', H', hr, hh, hq'⟩ := ih _ _ Q _ (hw.drawn _) (h.2 hq (w.tape w.drawn q))
      exact ⟨x, w', H', by simp only [Sem.run, hq, Bool.false_eq_true, if_false]; exact hr, hh, hq'⟩
  | sys c k ih => intro H Q w hw h; exact h.elim
  | program k ih => intro H Q w hw h; exact ih P H Q w hw h
  | mark m k ih => intro H Q w hw h; exact ih H Q w hw h
  | halt x => intro H Q w hw h; exact h.elim

theorem astill_sound (P : Program) {α : Type} (s : Sem α) : ∀ (H : Heap) (Q : α → Prop), astill P s H Q →
    ∃ a, Q a ∧ ∀ w0 w, Holds w0 w H → s.run P w = .ok a w := by
  induction s with
  | pure a => intro H Q h; exact ⟨a, h, fun _ w _ => rfl⟩
  | load m a k ih =>
    intro H Q h
    obtain ⟨v, hc, h⟩ := h
    obtain ⟨x, hq, hr⟩ := ih v H Q h
    exact ⟨x, hq, fun w0 w hw => by simp only [Sem.run, hw.cell hc]; exact hr w0 w hw⟩
  | shape r k ih =>
    intro H Q h
    obtain ⟨⟨o, ho⟩, h⟩ := h
    obtain ⟨x, hq, hr⟩ := ih _ H Q h
    exact ⟨x, hq, fun w0 w hw => by simp only [Sem.run, hw.shape ho]; exact hr w0 w hw⟩
  | frozen a k ih =>
    intro H Q h
    obtain ⟨⟨o, ho⟩, h⟩ := h
    obtain ⟨x, hq, hr⟩ := ih _ H Q h
    exact ⟨x, hq, fun w0 w hw => by simp only [Sem.run, hw.frozen ho]; exact hr w0 w hw⟩
  | getObj r k ih =>
    intro H Q h
    obtain ⟨o, ho, hn, h⟩ := h
    obtain ⟨x, hq, hr⟩ := ih _ H Q h
    refine ⟨x, hq, fun w0 w hw => ?_⟩
    simp only [Sem.run, hw.blk _ _ ho]
    cases o <;> first | (simp only [Obj.isCells] at hn; cases hn; done) | exact hr w0 w hw
  | program k ih => intro H Q h; exact ih P H Q h
  | mark m k ih =>
    intro H Q h
    obtain ⟨x, hq, hr⟩ := ih H Q h
    exact ⟨x, hq, fun w0 w hw => hr w0 w hw⟩
  | _ => intro H Q h; exact h.elim

/-- The same meaning, with the program looked up. -/
def nf (P : Program) {α : Type} : Sem α → Sem α
  | .pure a => .pure a
  | .load m a k => .load m a fun v => nf P (k v)
  | .store m a v k => .store m a v (nf P k)
  | .new o k => .new o fun b => nf P (k b)
  | .shape r k => .shape r fun s => nf P (k s)
  | .freeze a n k => .freeze a n (nf P k)
  | .frozen a k => .frozen a fun b => nf P (k b)
  | .getObj r k => .getObj r fun o => nf P (k o)
  | .setObj r o k => .setObj r o (nf P k)
  | .choose q k => .choose q fun n => nf P (k n)
  | .sys c k => .sys c fun r => nf P (k r)
  | .program k => nf P (k P)
  | .mark _ k => nf P k
  | .halt h => .halt h

theorem nf_run (P : Program) {α : Type} (s : Sem α) : ∀ w, (nf P s).run P w = s.run P w := by
  induction s with
  | pure a => intro w; rfl
  | load m a k ih => intro w; simp only [nf, Sem.run, ih]
  | store m a v k ih => intro w; cases v <;> simp only [nf, Sem.run, ih]
  | new o k ih => intro w; simp only [nf, Sem.run, ih]
  | shape r k ih => intro w; simp only [nf, Sem.run, ih]
  | freeze a n k ih => intro w; simp only [nf, Sem.run, ih]
  | frozen a k ih => intro w; simp only [nf, Sem.run, ih]
  | getObj r k ih => intro w; simp only [nf, Sem.run, ih]
  | setObj r o k ih => intro w; simp only [nf, Sem.run, ih]
  | choose q k ih => intro w; simp only [nf, Sem.run, ih]
  | sys c k ih => intro w; simp only [nf, Sem.run, ih]
  | program k ih => intro w; simp only [nf, Sem.run, ih]
  | mark m k ih => intro w; simp only [nf, Sem.run, ih]
  | halt x => intro w; rfl

/-- The value of a meaning that neither looks nor turns anything. -/
def pureRun (P : Program) : Sem Next → Option Value
  | .pure (.value v) => some v
  | .program k => pureRun P (k P)
  | .mark _ k => pureRun P k
  | _ => none

theorem pureRun_sound (P : Program) (s : Sem Next) : ∀ v, pureRun P s = some v → ∀ w, s.run P w = .ok (.value v) w := by
  induction s with
  | pure a =>
    intro v h w
    cases a <;> simp only [pureRun] at h <;> first | (cases h; done) | (cases h; rfl)
  | program k ih => intro v h w; exact ih P v h w
  | mark m k ih => intro v h w; exact ih v h w
  | _ => intro v h; simp only [pureRun] at h; cases h

end Go.Fw

import Derived.Test.YtgnifhkjpekkdaaSaTrArena
import Derived.Test.YtgnifhkjpekkdaaSaCHandle4
import Derived.Test.YtgnifhkjpekkdaaFwSlice
set_option linter.unusedVariables false
namespace Go.Proofs.Ytgnifhkjpekkdaa
open Go Go.Fw

/-- An arena: its blocks, and what they hold. -/
structure Ar where
  a : Nat
  r : Nat
  w : Nat
  s : Nat
  b : Nat
  c : Nat
  g : Nat
  raw : List Int
  words : List Int
  fresh : Bool
  slots : List (Int × (Int × Int))
  busy : List Bool
  carved : List Bool
  gens : List (Int × Int)
  nC : Int
  nL : Int
  nR : Int
  nF : Int
  fault : Bool
  uses : Int

def encSlot (p : Int × Int) : Value := .agg #[.int .i64 p.1, .int .i64 p.2]
def encInt (n : Int) : Value := .int .i64 n
def ints (l : List Int) : Array Value := (l.map (Value.int .i64)).toArray
def bools (l : List Bool) : Array Value := (l.map Value.bool).toArray

namespace Ar
def arrA (A : Ar) : Array Value := #[.slice (some ⟨A.r, 0, none⟩) A.raw.length A.raw.length, .slice (some ⟨A.w, 0, none⟩) A.words.length A.words.length, .bool A.fresh, .map (some A.s),
  .slice (some ⟨A.b, 0, none⟩) A.busy.length A.busy.length, .slice (some ⟨A.c, 0, none⟩) A.carved.length A.carved.length, .map (some A.g),
  .int .i64 A.nC, .int .i64 A.nL, .int .i64 A.nR, .int .i64 A.nF, .bool A.fault, .int .i64 A.uses]
def objA (A : Ar) : Obj := .cells A.arrA ty_arena_Arena (0, 0)
def objR (A : Ar) : Obj := .cells (ints A.raw) ty_int (0, 0)
def objW (A : Ar) : Obj := .cells (ints A.words) ty_int (0, 0)
def objS (A : Ar) : Obj := mapObj encSlot A.slots
def objB (A : Ar) : Obj := .cells (bools A.busy) ty_bool (0, 0)
def objC (A : Ar) : Obj := .cells (bools A.carved) ty_bool (0, 0)
def objG (A : Ar) : Obj := mapObj encInt A.gens
def ids (A : Ar) : List Nat := [A.a, A.r, A.w, A.s, A.b, A.c, A.g]
def nd (A : Ar) : Prop := A.ids.Nodup

def put (A : Ar) (H : Heap) : Heap := fun x =>
  if x = A.a then some A.objA else if x = A.r then some A.objR else if x = A.w then some A.objW else if x = A.s then some A.objS else if x = A.b then some A.objB else
  if x = A.c then some A.objC else if x = A.g then some A.objG else H x

theorem ne (A : Ar) (h : A.nd) : A.r ≠ A.a ∧ A.w ≠ A.a ∧ A.w ≠ A.r ∧ A.s ≠ A.a ∧ A.s ≠ A.r ∧ A.s ≠ A.w ∧ A.b ≠ A.a ∧ A.b ≠ A.r ∧ A.b ≠ A.w ∧ A.b ≠ A.s ∧
    A.c ≠ A.a ∧ A.c ≠ A.r ∧ A.c ≠ A.w ∧ A.c ≠ A.s ∧ A.c ≠ A.b ∧ A.g ≠ A.a ∧ A.g ≠ A.r ∧ A.g ≠ A.w ∧ A.g ≠ A.s ∧ A.g ≠ A.b ∧ A.g ≠ A.c := by
  unfold nd ids at h
  simp only [List.nodup_cons, List.mem_cons, not_or, List.not_mem_nil, not_false_eq_true, and_true, List.nodup_nil] at h
  obtain ⟨⟨h1, h2, h3, h4, h5, h6⟩, ⟨h7, h8, h9, h10, h11⟩, ⟨h12, h13, h14, h15⟩, ⟨h16, h17, h18⟩, ⟨h19, h20⟩, h21⟩ := h
  exact ⟨fun e => h1 e.symm, fun e => h2 e.symm, fun e => h7 e.symm, fun e => h3 e.symm, fun e => h8 e.symm, fun e => h12 e.symm, fun e => h4 e.symm, fun e => h9 e.symm, fun e => h13 e.symm, fun e => h16 e.symm,
    fun e => h5 e.symm, fun e => h10 e.symm, fun e => h14 e.symm, fun e => h17 e.symm, fun e => h19 e.symm, fun e => h6 e.symm, fun e => h11 e.symm, fun e => h15 e.symm, fun e => h18 e.symm, fun e => h20 e.symm, fun e => h21 e.symm⟩

theorem at_a (A : Ar) (H : Heap) : A.put H A.a = some A.objA := by unfold put; rw [if_pos rfl]
theorem at_r {A : Ar} (h : A.nd) (H : Heap) : A.put H A.r = some A.objR := by have := A.ne h; simp [put, this]
theorem at_w {A : Ar} (h : A.nd) (H : Heap) : A.put H A.w = some A.objW := by have := A.ne h; simp [put, this]
theorem at_s {A : Ar} (h : A.nd) (H : Heap) : A.put H A.s = some A.objS := by have := A.ne h; simp [put, this]
theorem at_b {A : Ar} (h : A.nd) (H : Heap) : A.put H A.b = some A.objB := by have := A.ne h; simp [put, this]
theorem at_c {A : Ar} (h : A.nd) (H : Heap) : A.put H A.c = some A.objC := by have := A.ne h; simp [put, this]
theorem at_g {A : Ar} (h : A.nd) (H : Heap) : A.put H A.g = some A.objG := by have := A.ne h; simp [put, this]

/-- The same blocks. -/
structure Alike (A B : Ar) : Prop where
  a : B.a = A.a
  r : B.r = A.r
  w : B.w = A.w
  s : B.s = A.s
  b : B.b = A.b
  c : B.c = A.c
  g : B.g = A.g

theorem Alike.refl (A : Ar) : Alike A A := ⟨rfl, rfl, rfl, rfl, rfl, rfl, rfl⟩
theorem Alike.trans {A B C : Ar} (h : Alike A B) (k : Alike B C) : Alike A C := ⟨k.a.trans h.a, k.r.trans h.r, k.w.trans h.w, k.s.trans h.s, k.b.trans h.b, k.c.trans h.c, k.g.trans h.g⟩
theorem Alike.ids {A B : Ar} (h : Alike A B) : B.ids = A.ids := by unfold Ar.ids; rw [h.a, h.r, h.w, h.s, h.b, h.c, h.g]
theorem Alike.nd {A B : Ar} (h : Alike A B) (hn : A.nd) : B.nd := by unfold Ar.nd at *; rw [h.ids]; exact hn

theorem put_put {A B : Ar} (h : Alike A B) (H : Heap) : B.put (A.put H) = B.put H := by
  funext x
  unfold put
  rw [h.a, h.r, h.w, h.s, h.b, h.c, h.g]
  by_cases h1 : x = A.a
  · rw [if_pos h1, if_pos h1]
  rw [if_neg h1, if_neg h1, if_neg h1]
  by_cases h2 : x = A.r
  · rw [if_pos h2, if_pos h2]
  rw [if_neg h2, if_neg h2, if_neg h2]
  by_cases h3 : x = A.w
  · rw [if_pos h3, if_pos h3]
  rw [if_neg h3, if_neg h3, if_neg h3]
  by_cases h4 : x = A.s
  · rw [if_pos h4, if_pos h4]
  rw [if_neg h4, if_neg h4, if_neg h4]
  by_cases h5 : x = A.b
  · rw [if_pos h5, if_pos h5]
  rw [if_neg h5, if_neg h5, if_neg h5]
  by_cases h6 : x = A.c
  · rw [if_pos h6, if_pos h6]
  rw [if_neg h6, if_neg h6, if_neg h6]
  by_cases h7 : x = A.g
  · rw [if_pos h7, if_pos h7]
  rw [if_neg h7, if_neg h7, if_neg h7]

theorem put_out {A : Ar} {H : Heap} {x : Nat} (h : x ∉ A.ids) : A.put H x = H x := by
  unfold ids at h
  simp only [List.mem_cons, not_or, List.not_mem_nil, not_false_eq_true, and_true] at h
  unfold put
  rw [if_neg h.1, if_neg h.2.1, if_neg h.2.2.1, if_neg h.2.2.2.1, if_neg h.2.2.2.2.1, if_neg h.2.2.2.2.2.1, if_neg h.2.2.2.2.2.2]

theorem put_none {A : Ar} {H : Heap} {x : Nat} (h : A.put H x = none) : x ∉ A.ids ∧ H x = none := by
  have hx : x ∉ A.ids := fun hm => by
    unfold ids at hm
    simp only [List.mem_cons, List.not_mem_nil, or_false] at hm
    unfold put at h
    repeat' split at h
    all_goals first | cases h | skip
    rename_i h1 h2 h3 h4 h5 h6 h7
    rcases hm with e | e | e | e | e | e | e <;> first | exact h1 e | exact h2 e | exact h3 e | exact h4 e | exact h5 e | exact h6 e | exact h7 e
  exact ⟨hx, by rw [put_out hx] at h; exact h⟩

theorem put_set {A : Ar} {H : Heap} {x : Nat} (o : Obj) (h : x ∉ A.ids) : (A.put H).set x o = A.put (H.set x o) := by
  funext y
  by_cases hy : y = x
  · subst hy; rw [Heap.set_same, put_out h, Heap.set_same]
  · rw [Heap.set_ne _ _ hy]
    unfold put Heap.set
    rw [if_neg hy]

theorem put_le {A : Ar} {H K : Heap} (h : H.le K) : (A.put H).le (A.put K) := fun x o e => by
  unfold put at *
  repeat' split at e
  all_goals first | (rename_i h1; simp_all; done) | skip
  all_goals simp_all
  exact h x o e

/-- Turning one block of an arena. -/
theorem set_any {A B : Ar} (hA : A.nd) (h : Alike A B) (H : Heap) (x : Nat) (o : Obj)
    (hx : (x = A.a ∧ o = B.objA ∧ B.objR = A.objR ∧ B.objW = A.objW ∧ B.objS = A.objS ∧ B.objB = A.objB ∧ B.objC = A.objC ∧ B.objG = A.objG) ∨
      (x = A.r ∧ o = B.objR ∧ B.objA = A.objA ∧ B.objW = A.objW ∧ B.objS = A.objS ∧ B.objB = A.objB ∧ B.objC = A.objC ∧ B.objG = A.objG) ∨
      (x = A.w ∧ o = B.objW ∧ B.objA = A.objA ∧ B.objR = A.objR ∧ B.objS = A.objS ∧ B.objB = A.objB ∧ B.objC = A.objC ∧ B.objG = A.objG) ∨
      (x = A.s ∧ o = B.objS ∧ B.objA = A.objA ∧ B.objR = A.objR ∧ B.objW = A.objW ∧ B.objB = A.objB ∧ B.objC = A.objC ∧ B.objG = A.objG) ∨
      (x = A.b ∧ o = B.objB ∧ B.objA = A.objA ∧ B.objR = A.objR ∧ B.objW = A.objW ∧ B.objS = A.objS ∧ B.objC = A.objC ∧ B.objG = A.objG) ∨
      (x = A.c ∧ o = B.objC ∧ B.objA = A.objA ∧ B.objR = A.objR ∧ B.objW = A.objW ∧ B.objS = A.objS ∧ B.objB = A.objB ∧ B.objG = A.objG) ∨
      (x = A.g ∧ o = B.objG ∧ B.objA = A.objA ∧ B.objR = A.objR ∧ B.objW = A.objW ∧ B.objS = A.objS ∧ B.objB = A.objB ∧ B.objC = A.objC)) : (A.put H).set x o = B.put H := by
  have hne := A.ne hA
  funext y
  rcases hx with hx | hx | hx | hx | hx | hx | hx
  · obtain ⟨hx, ho, e1, e2, e3, e4, e5, e6⟩ := hx
    rw [hx, ho]
    by_cases hy : y = A.a
    · rw [hy, Heap.set_same]
      have := B.at_a  H
      rw [h.a] at this
      exact this.symm
    · rw [Heap.set_ne _ _ hy]
      unfold put
      rw [h.a, h.r, h.w, h.s, h.b, h.c, h.g, e1, e2, e3, e4, e5, e6]
      rw [if_neg hy, if_neg hy]
  · obtain ⟨hx, ho, e1, e2, e3, e4, e5, e6⟩ := hx
    rw [hx, ho]
    by_cases hy : y = A.r
    · rw [hy, Heap.set_same]
      have := B.at_r (h.nd hA) H
      rw [h.r] at this
      exact this.symm
    · rw [Heap.set_ne _ _ hy]
      unfold put
      rw [h.a, h.r, h.w, h.s, h.b, h.c, h.g, e1, e2, e3, e4, e5, e6]
      simp only [if_neg hy]
  · obtain ⟨hx, ho, e1, e2, e3, e4, e5, e6⟩ := hx
    rw [hx, ho]
    by_cases hy : y = A.w
    · rw [hy, Heap.set_same]
      have := B.at_w (h.nd hA) H
      rw [h.w] at this
      exact this.symm
    · rw [Heap.set_ne _ _ hy]
      unfold put
      rw [h.a, h.r, h.w, h.s, h.b, h.c, h.g, e1, e2, e3, e4, e5, e6]
      simp only [if_neg hy]
  · obtain ⟨hx, ho, e1, e2, e3, e4, e5, e6⟩ := hx
    rw [hx, ho]
    by_cases hy : y = A.s
    · rw [hy, Heap.set_same]
      have := B.at_s (h.nd hA) H
      rw [h.s] at this
      exact this.symm
    · rw [Heap.set_ne _ _ hy]
      unfold put
      rw [h.a, h.r, h.w, h.s, h.b, h.c, h.g, e1, e2, e3, e4, e5, e6]
      simp only [if_neg hy]
  · obtain ⟨hx, ho, e1, e2, e3, e4, e5, e6⟩ := hx
    rw [hx, ho]
    by_cases hy : y = A.b
    · rw [hy, Heap.set_same]
      have := B.at_b (h.nd hA) H
      rw [h.b] at this
      exact this.symm
    · rw [Heap.set_ne _ _ hy]
      unfold put
      rw [h.a, h.r, h.w, h.s, h.b, h.c, h.g, e1, e2, e3, e4, e5, e6]
      simp only [if_neg hy]
  · obtain ⟨hx, ho, e1, e2, e3, e4, e5, e6⟩ := hx
    rw [hx, ho]
    by_cases hy : y = A.c
    · rw [hy, Heap.set_same]
      have := B.at_c (h.nd hA) H
      rw [h.c] at this
      exact this.symm
    · rw [Heap.set_ne _ _ hy]
      unfold put
      rw [h.a, h.r, h.w, h.s, h.b, h.c, h.g, e1, e2, e3, e4, e5, e6]
      simp only [if_neg hy]
  · obtain ⟨hx, ho, e1, e2, e3, e4, e5, e6⟩ := hx
    rw [hx, ho]
    by_cases hy : y = A.g
    · rw [hy, Heap.set_same]
      have := B.at_g (h.nd hA) H
      rw [h.g] at this
      exact this.symm
    · rw [Heap.set_ne _ _ hy]
      unfold put
      rw [h.a, h.r, h.w, h.s, h.b, h.c, h.g, e1, e2, e3, e4, e5, e6]
      simp only [if_neg hy]
end Ar
end Go.Proofs.Ytgnifhkjpekkdaa

/- From what is said of views to what a row asks. -/
import Derived.Test.YtgnifhkjpekkdaaFwWp
import Derived.Below
namespace Go.Fw
open Go Go.RowKit

/-- All blocks of a world. -/
def allOf (w : World) : Heap := fun b => w.heap[b]?

theorem holds_all (w : World) : Holds w w (allOf w) := ⟨fun _ _ h => h, rfl, rfl, Nat.le_refl _, fun a ha => by
  unfold World.frozen?
  rw [Array.getElem?_eq_none ha], rfl⟩

theorem grown_of {w w' : World} {H' : Heap} (h : Holds w w' H') (hl : (allOf w).le H') : Grown w w' := by
  have same : ∀ i, i < w.heap.size → w'.heap[i]? = w.heap[i]? := fun i hi => by
    have e : w.heap[i]? = some w.heap[i] := by simp [hi]
    rw [h.blk i _ (hl i _ e), e]
  refine ⟨⟨h.os, h.output, fun i hi => ?_⟩, fun a => ?_, h.size⟩
  · rw [same i hi]
    cases hx : w.heap[i]? with
    | none => rfl
    | some o => cases o <;> first | rfl | exact ⟨rfl, rfl, rfl, fun _ _ => rfl⟩ | exact .inr ⟨rfl, rfl⟩
  · rcases Nat.lt_or_ge a.block w.heap.size with hlt | hge
    · unfold World.frozen?; rw [same _ hlt]
    · rw [h.soft a hge]
      unfold World.frozen?
      rw [Array.getElem?_eq_none hge]

theorem calls_grown {P : Program} {f : FuncId} {args : Array Value} {w : World} {v : Value} (h : SpecF P f args (allOf w) fun u K => u = v ∧ (allOf w).le K) :
    Calls P f args w fun e w' => e = .returned v ∧ Grown w w' :=
  (h w w (holds_all w)).mono fun e w' ⟨u, K, he, hh, hu, hl⟩ => ⟨by rw [he, hu], grown_of hh hl⟩

theorem calls_det {P : Program} {f : FuncId} {args : List Value} {w : World} {v : Value} (h : Det P f args (allOf w) v (allOf w)) :
    Calls P f args.toArray w fun e w' => e = .returned v ∧ Grown w w' :=
  calls_grown (SpecF.mono h fun u K ⟨hu, hK⟩ => ⟨hu, by rw [hK]; exact Heap.le_refl _⟩)

theorem below_of {w w' : World} {H' : Heap} (h : Holds w w' H') (hl : (allOf w).le H') : Below w.heap.size w w' :=
  ⟨h.os, h.tape, h.output, h.size, fun i hi => by
    have e : w.heap[i]? = some w.heap[i] := by simp [hi]
    rw [h.blk i _ (hl i _ e), e]⟩

theorem calls_below {P : Program} {f : FuncId} {args : List Value} {w : World} {v : Value} (h : Det P f args (allOf w) v (allOf w)) :
    Calls P f args.toArray w fun e w' => e = .returned v ∧ Below w.heap.size w w' :=
  (h w w (holds_all w)).mono fun e w' ⟨u, K, he, hh, hu, hl⟩ => ⟨by rw [he, hu], below_of hh (by rw [hl]; exact Heap.le_refl _)⟩

theorem all_cell {w : World} {a : Addr} {v : Value} (h : w.cell? a = some v) : (allOf w).cell? a = some v := by
  unfold World.cell? at h
  unfold Heap.cell? allOf
  exact h
end Go.Fw

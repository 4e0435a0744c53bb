import Derived.Test.YtgnifhkjpekkdaaSaLArena
set_option linter.unusedVariables false
set_option maxRecDepth 20000
namespace Go.Proofs.Ytgnifhkjpekkdaa
open Go Go.Fw

section
variable {L : Hands} {G : Heap} {R : Value → Heap → Prop} {A : Ar} {q T : Nat} {c : Array Value}
/-- A cell of a block that stands beside an arena. -/
theorem bl_fld {p : Addr} {n : Nat} {l : Leaf} {x : l.T} {k : l.T → Tree} (hq : q ∉ A.ids) (h : wp Try.prog (k x) L (A.put (G.set q (.cells c T (0, 0)))) R) (hp : p = ⟨q, n, none⟩ := by rfl) (hx : c[n]? = some (l.toVal x) := by rfl) :
    wp Try.prog (.ld p l k) L (A.put (G.set q (.cells c T (0, 0)))) R := by
  subst hp
  exact wp_ld_of ((Heap.cell_of (by rw [Ar.put_out hq, Heap.set_same]) _).trans hx) h
theorem bl_set {p : Addr} {n : Nat} {v u : Value} {k : Tree} (hq : q ∉ A.ids) (c' : Array Value) (h : wp Try.prog k L (A.put (G.set q (.cells c' T (0, 0)))) R) (hp : p = ⟨q, n, none⟩ := by rfl) (hx : c[n]? = some u := by rfl)
    (hc : c.setIfInBounds n v = c' := by rfl) (hs : Value.single v = true := by rfl) :
    wp Try.prog (.st p v k) L (A.put (G.set q (.cells c T (0, 0)))) R := by
  subst hp
  refine wp_st_of (by rw [Ar.put_out hq, Heap.set_same]) hx hs ?_
  rw [Ar.put_set _ hq, Heap.set_set, hc]; exact h
end

theorem touchR_yes {A : Ar} {i : Int} (h : A.rawOk i) : A.touchR i = A.tick := by unfold Ar.touchR; rw [if_pos h]

end Go.Proofs.Ytgnifhkjpekkdaa

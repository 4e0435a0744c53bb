import Derived.Test.YtgnifhkjpekkdaaSaCFree
set_option linter.unusedVariables false
set_option maxRecDepth 20000
namespace Go.Proofs.Ytgnifhkjpekkdaa
open Go Go.Fw

/-- Five numbers of a block. -/
theorem wp_pl {L : Hands} {H : Heap} {R : Value → Heap → Prop} {b : Nat} {p : Pl} {k : HL Leaf.T [(.int .i64), (.int .i64), (.int .i64), (.int .i64), (.int .i64)] → Tree} (hb : H b = some (.cells p.cells ty_free_Place (0, 0)))
    (h : wp Try.prog (k (p.work, p.heads, p.links, p.gens, p.carved, ())) L H R) : wp Try.prog (.ldA ⟨b, 0, none⟩ [(.int .i64), (.int .i64), (.int .i64), (.int .i64), (.int .i64)] k) L H R :=
  wp_ldA_of (c := p.cells) (n := 0) hb (by exact Nat.le_refl 5) rfl h

def headF (p : Pl) (w c : Int) : Int := w64 (w64 (p.heads + w64 (4 * w)) + c)

theorem head_det (p : Pl) (w c : Int) (H : Heap) : Det Try.prog f_free_Place_head [p.val, .int .i64 w, .int .i64 c] H (.int .i64 (headF p w c)) H := by
  refine t_free_Place_head_spec (p0_0 := p.work) (p0_1 := p.heads) (p0_2 := p.links) (p0_3 := p.gens) (p0_4 := p.carved) fun L => ?_
  unfold t_free_Place_head
  refine wp_newP fun b hb => ?_
  refine wp_ld_of (x := p.heads) (by show Heap.cell? _ ⟨b, 1, none⟩ = _; rw [Heap.cell_set]; rfl) ?_
  exact ⟨H, Heap.le_set_new _ hb, rfl, rfl⟩

def pushObj (q : Nat) : Obj := .cells #[.iface ty_p_free_pusher (.pointer (some ⟨q, 0, none⟩))] ty_free_Push (0, 0)
def popObj (q : Nat) : Obj := .cells #[.iface ty_p_free_popper (.pointer (some ⟨q, 0, none⟩)), .pointer (some ⟨q, 0, none⟩)] ty_free_Pop (0, 0)

theorem NewPush_spec (p : Pl) (w c b : Int) (H : Heap) : SpecF Try.prog f_free_NewPush #[p.val, .int .i64 w, .int .i64 c, .int .i64 b] H fun v K => ∃ q0 q1 : Nat, H q0 = none ∧ H q1 = none ∧ q0 ≠ q1 ∧ v = .pointer (some ⟨q0, 0, none⟩) ∧
    K = (H.set q1 (Pu.obj ⟨p, headF p w c, 0, 0, b⟩)).set q0 (pushObj q1) := by
  refine t_free_NewPush_spec (p0_0 := p.work) (p0_1 := p.heads) (p0_2 := p.links) (p0_3 := p.gens) (p0_4 := p.carved) fun L => ?_
  unfold t_free_NewPush
  refine wp_newP fun e he => ?_
  refine wp_pl (p := p) (Heap.set_same _ _ _) (wp_pl (p := p) (Heap.set_same _ _ _) ?_)
  refine wp_qcall_det (head_det p w c _) ?_
  refine wp_newP fun q1 h1 => ?_
  refine wp_newP fun q0 h0 => ?_
  obtain ⟨n1, h1⟩ := set_none h1
  obtain ⟨n2, h0⟩ := set_none h0
  obtain ⟨n3, h0⟩ := set_none h0
  refine ⟨(H.set q1 (Pu.obj ⟨p, headF p w c, 0, 0, b⟩)).set q0 (pushObj q1), ?_, q0, q1, h0, h1, n2, rfl, rfl⟩
  intro x o hx
  by_cases x0 : x = q0
  · rw [x0, Heap.set_same] at hx ⊢; exact hx
  · rw [Heap.set_ne _ _ x0] at hx ⊢
    by_cases x1 : x = q1
    · rw [x1, Heap.set_same] at hx ⊢; exact hx
    · rw [Heap.set_ne _ _ x1] at hx ⊢
      exact Heap.le_set_new _ he _ _ hx

theorem NewPop_spec (p : Pl) (w c : Int) (H : Heap) : SpecF Try.prog f_free_NewPop #[p.val, .int .i64 w, .int .i64 c] H fun v K => ∃ q0 q1 : Nat, H q0 = none ∧ H q1 = none ∧ q0 ≠ q1 ∧ v = .pointer (some ⟨q0, 0, none⟩) ∧
    K = (H.set q1 (Po.obj ⟨p, headF p w c, 0, 0, 0, 0, false⟩)).set q0 (popObj q1) := by
  refine t_free_NewPop_spec (p0_0 := p.work) (p0_1 := p.heads) (p0_2 := p.links) (p0_3 := p.gens) (p0_4 := p.carved) fun L => ?_
  unfold t_free_NewPop
  refine wp_newP fun e he => ?_
  refine wp_pl (p := p) (Heap.set_same _ _ _) (wp_pl (p := p) (Heap.set_same _ _ _) ?_)
  refine wp_qcall_det (head_det p w c _) ?_
  refine wp_newP fun q1 h1 => ?_
  refine wp_newP fun q0 h0 => ?_
  obtain ⟨n1, h1⟩ := set_none h1
  obtain ⟨n2, h0⟩ := set_none h0
  obtain ⟨n3, h0⟩ := set_none h0
  refine ⟨(H.set q1 (Po.obj ⟨p, headF p w c, 0, 0, 0, 0, false⟩)).set q0 (popObj q1), ?_, q0, q1, h0, h1, n2, rfl, rfl⟩
  intro x o hx
  by_cases x0 : x = q0
  · rw [x0, Heap.set_same] at hx ⊢; exact hx
  · rw [Heap.set_ne _ _ x0] at hx ⊢
    by_cases x1 : x = q1
    · rw [x1, Heap.set_same] at hx ⊢; exact hx
    · rw [Heap.set_ne _ _ x1] at hx ⊢
      exact Heap.le_set_new _ he _ _ hx

theorem inv_pusher (q : Nat) (p : Option Addr) : opS Try.prog (.call { callee := .invoke (.tmp 0) "Step", args := #[(.tmp 1)], argTypes := #[ty_p_arena_Arena] }) ty_bool [(.iface ty_p_free_pusher (.pointer (some ⟨q, 0, none⟩))), (.pointer p)] =
    .pure (.enter f_free_pusher_Step [.pointer (some ⟨q, 0, none⟩), .pointer p].toArray) := by kernel_rfl
theorem inv_popper (q : Nat) (p : Option Addr) : opS Try.prog (.call { callee := .invoke (.tmp 0) "Step", args := #[(.tmp 1)], argTypes := #[ty_p_arena_Arena] }) ty_bool [(.iface ty_p_free_popper (.pointer (some ⟨q, 0, none⟩))), (.pointer p)] =
    .pure (.enter f_free_popper_Step [.pointer (some ⟨q, 0, none⟩), .pointer p].toArray) := by kernel_rfl
theorem inv_Push (q : Nat) (p : Option Addr) : opS Try.prog (.call { callee := .invoke (.tmp 0) "Step", args := #[(.tmp 1)], argTypes := #[ty_p_arena_Arena] }) ty_bool [(.iface ty_p_free_Push (.pointer (some ⟨q, 0, none⟩))), (.pointer p)] =
    .pure (.enter f_free_Push_Step [.pointer (some ⟨q, 0, none⟩), .pointer p].toArray) := by kernel_rfl
theorem inv_Pop (q : Nat) (p : Option Addr) : opS Try.prog (.call { callee := .invoke (.tmp 0) "Step", args := #[(.tmp 1)], argTypes := #[ty_p_arena_Arena] }) ty_bool [(.iface ty_p_free_Pop (.pointer (some ⟨q, 0, none⟩))), (.pointer p)] =
    .pure (.enter f_free_Pop_Step [.pointer (some ⟨q, 0, none⟩), .pointer p].toArray) := by kernel_rfl

/-- A push, on what is below. -/
theorem Push_det {A : Ar} (hA : A.wf) (x : Pu) {q0 q1 : Nat} {G : Heap} (h0 : q0 ∉ A.ids) (h1 : q1 ∉ A.ids) (hg : G q0 = some (pushObj q1)) (hx : G q1 = some x.obj) :
    Det Try.prog f_free_Push_Step [.pointer (some ⟨q0, 0, none⟩), pA A] (A.put G) (.bool (x.stepB A)) ((x.stepA A).put (G.set q1 (x.stepM A).obj)) := by
  refine t_free_Push_Step_spec fun L => ?_
  unfold t_free_Push_Step
  refine wp_nil.2 (wp_ld_of (x := Value.iface ty_p_free_pusher (.pointer (some ⟨q1, 0, none⟩))) ((Heap.cell_of (by rw [Ar.put_out h0]; exact hg) _).trans rfl) ?_)
  refine act_enter (inv_pusher q1 _) ?_
  refine wp_call_det (x := x.stepB A) ?_ (wp_ret_of ⟨rfl, rfl⟩)
  have := pusher_det hA x h1 G
  rw [Heap.set_self hx] at this
  exact this
theorem Pop_det {A : Ar} (hA : A.wf) (x : Po) {q0 q1 : Nat} {G : Heap} (h0 : q0 ∉ A.ids) (h1 : q1 ∉ A.ids) (hg : G q0 = some (popObj q1)) (hx : G q1 = some x.obj) :
    Det Try.prog f_free_Pop_Step [.pointer (some ⟨q0, 0, none⟩), pA A] (A.put G) (.bool (x.stepB A)) ((x.stepA A).put (G.set q1 (x.stepM A).obj)) := by
  refine t_free_Pop_Step_spec fun L => ?_
  unfold t_free_Pop_Step
  refine wp_nil.2 (wp_ld_of (x := Value.iface ty_p_free_popper (.pointer (some ⟨q1, 0, none⟩))) ((Heap.cell_of (by rw [Ar.put_out h0]; exact hg) _).trans rfl) ?_)
  refine act_enter (inv_popper q1 _) ?_
  refine wp_call_det (x := x.stepB A) ?_ (wp_ret_of ⟨rfl, rfl⟩)
  have := popper_det hA x h1 G
  rw [Heap.set_self hx] at this
  exact this
theorem Base_det {A : Ar} (x : Po) {q0 q1 : Nat} {G : Heap} (h0 : q0 ∉ A.ids) (h1 : q1 ∉ A.ids) (hg : G q0 = some (popObj q1)) (hx : G q1 = some x.obj) :
    Det Try.prog f_free_Pop_Base [.pointer (some ⟨q0, 0, none⟩)] (A.put G) (.tuple #[.int .i64 x.base, .bool x.ok]) (A.put G) := by
  have e0 : A.put G q0 = some (popObj q1) := by rw [Ar.put_out h0]; exact hg
  have e1 : A.put G q1 = some x.obj := by rw [Ar.put_out h1]; exact hx
  refine t_free_Pop_Base_spec fun L => ?_
  unfold t_free_Pop_Base
  refine wp_nil.2 (wp_ld_of (x := some ⟨q1, 0, none⟩) ((Heap.cell_of e0 1).trans rfl) (wp_nil.2 ?_))
  refine wp_ld_of (x := x.base) ((Heap.cell_of e1 9).trans rfl) (wp_nil.2 ?_)
  refine wp_ld_of (x := some ⟨q1, 0, none⟩) ((Heap.cell_of e0 1).trans rfl) (wp_nil.2 ?_)
  exact wp_ld_of (x := x.ok) ((Heap.cell_of e1 10).trans rfl) (wp_ret_of ⟨rfl, rfl⟩)
end Go.Proofs.Ytgnifhkjpekkdaa

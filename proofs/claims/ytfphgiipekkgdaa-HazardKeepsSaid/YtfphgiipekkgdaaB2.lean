/- Texts of this claim, one behind the other. -/
import Derived.Test.YtfphgiipekkgdaaB1
set_option linter.unusedSimpArgs false
set_option linter.unusedVariables false
set_option linter.unusedVariables false
set_option maxRecDepth 20000
namespace Go.Proofs.Ytfphgiipekkgdaa
open Go Go.Fw

theorem mAl_inv : mAl.inv' ty_p_slab_Alloc := fun q p => by
  show opS _ _ _ _ = .pure (.enter f_slab_Alloc_Step [.pointer (some ⟨q, 0, none⟩), .pointer p].toArray)
  kernel_rfl

/-- A free. -/
structure Fe where
  h : Int
  done : Bool
  pu : Pu
def Fe.cells (x : Fe) (q0 : Nat) : List Value := [.pointer (some ⟨q0, 0, none⟩), .int .i64 x.h, .bool x.done]
def Fe.bl (x : Fe) (j : Nat × Nat × Nat) : Bl := [(j.1, oc ty_slab_Free (x.cells j.2.1)), (j.2.1, pushObj j.2.2), (j.2.2, x.pu.obj)]
def Fe.step (x : Fe) (A : Ar) : Fe × Ar :=
  if x.done = true then (x, A)
  else if x.pu.stepB A = true then ({ x with pu := x.pu.stepM A, done := true }, (x.pu.stepA A).diedF x.h) else ({ x with pu := x.pu.stepM A }, x.pu.stepA A)
def mFe : Mch Fe (Nat × Nat × Nat) where
  f := f_slab_Free_Step
  addr := fun j => j.1
  bl := Fe.bl
  inv := fun _ _ => True
  step := Fe.step
  fin := fun x => x.done
theorem mFe_inv : mFe.inv' ty_p_slab_Free := fun q p => by
  show opS _ _ _ _ = .pure (.enter f_slab_Free_Step [.pointer (some ⟨q, 0, none⟩), .pointer p].toArray)
  kernel_rfl

theorem mFe_ok : mFe.ok := by
  rintro I A G x ⟨q, q0, q1⟩ hA ok hl
  have ok : Ok I G [q, q0, q1] := ok
  refine t_slab_Free_Step_spec fun L => ?_
  unfold t_slab_Free_Step
  show wp Try.prog _ L (own A [(q, oc ty_slab_Free (x.cells q0)), (q0, pushObj q1), (q1, x.pu.obj)] G) fun v K => ∃ j' : Nat × Nat × Nat, v = .bool (x.step A).1.done ∧ K = own (x.step A).2 ((x.step A).1.bl j') G ∧ j'.1 = q ∧ Ok I G [j'.1, j'.2.1, j'.2.2] ∧ Aw I (x.step A).2
  unfold Fe.step
  repeat (first
  | refine wp_nil.2 ?_
  | refine w_ld 0 hA ok rfl rfl rfl ?_
  | refine w_ld 1 hA ok rfl rfl rfl ?_
  | refine w_ld 2 hA ok rfl rfl rfl ?_
  | refine w_ld 3 hA ok rfl rfl rfl ?_
  | refine w_ld 4 hA ok rfl rfl rfl ?_
  | refine w_ld 5 hA ok rfl rfl rfl ?_
  | refine w_ld 6 hA ok rfl rfl rfl ?_
  | refine w_ld 7 hA ok rfl rfl rfl ?_
  | refine w_st 0 hA ok rfl rfl rfl rfl ?_
  | refine w_st 1 hA ok rfl rfl rfl rfl ?_
  | refine w_st 2 hA ok rfl rfl rfl rfl ?_
  | refine w_st 3 hA ok rfl rfl rfl rfl ?_
  | refine w_st 4 hA ok rfl rfl rfl rfl ?_
  | refine w_st 5 hA ok rfl rfl rfl rfl ?_
  | refine w_st 6 hA ok rfl rfl rfl rfl ?_
  | refine w_st 7 hA ok rfl rfl rfl rfl ?_
  | refine w_ldA 0 hA ok rfl rfl rfl ?_
  | refine w_ldA 1 hA ok rfl rfl rfl ?_
  | refine w_ldA 2 hA ok rfl rfl rfl ?_
  | refine w_ldA 3 hA ok rfl rfl rfl ?_
  | refine w_ldA 4 hA ok rfl rfl rfl ?_
  | refine w_ldA 5 hA ok rfl rfl rfl ?_
  | refine w_ldA 6 hA ok rfl rfl rfl ?_
  | refine w_ldA 7 hA ok rfl rfl rfl ?_
  | refine w_stA 0 hA ok rfl rfl rfl rfl ?_
  | refine w_stA 1 hA ok rfl rfl rfl rfl ?_
  | refine w_stA 2 hA ok rfl rfl rfl rfl ?_
  | refine w_stA 3 hA ok rfl rfl rfl rfl ?_
  | refine w_stA 4 hA ok rfl rfl rfl rfl ?_
  | refine w_stA 5 hA ok rfl rfl rfl rfl ?_
  | refine w_stA 6 hA ok rfl rfl rfl rfl ?_
  | refine w_stA 7 hA ok rfl rfl rfl rfl ?_
  | (refine w_Raw hA ?_; intro hA)
  | (refine w_SetRaw hA ?_; intro hA)
  | (refine w_SwapRaw hA ?_; intro hA)
  | (refine w_AddRaw hA ?_; intro hA)
  | (refine w_Load hA ?_; intro hA)
  | (refine w_Store hA ?_; intro hA)
  | (refine w_Retire hA ?_; intro hA)
  | (refine w_Died hA ?_; intro hA)
  | (refine w_Born hA ?_; intro hA)
  | refine w_State hA ?_
  | refine w_Uses hA ?_
  | refine w_Fault hA ?_
  | refine w_Words hA ?_
  | refine w_Count hA ?_
  | refine wq_Size ?_
  | refine wq_Open ?_
  | refine wq_Pack ?_
  | refine wq_head ?_
  | refine w_ck 0 hA ok rfl rfl rfl ?_
  | refine w_ck 1 hA ok rfl rfl rfl ?_
  | refine w_ck 2 hA ok rfl rfl rfl ?_
  | refine w_ck 3 hA ok rfl rfl rfl ?_
  | refine w_ck 4 hA ok rfl rfl rfl ?_
  | refine w_ck 5 hA ok rfl rfl rfl ?_
  | refine w_ck 6 hA ok rfl rfl rfl ?_
  | refine w_ck 7 hA ok rfl rfl rfl ?_
  | refine w_ckn rfl ?_
  | refine w_Base 0 1 hA ok rfl rfl ?_
  | refine w_Base 1 2 hA ok rfl rfl ?_
  | refine w_Base 2 3 hA ok rfl rfl ?_
  | refine w_Base 3 4 hA ok rfl rfl ?_
  | refine w_Base 4 5 hA ok rfl rfl ?_
  | refine w_Base 5 6 hA ok rfl rfl ?_
  | (refine w_PopStep 0 1 hA ok rfl rfl ?_; intro hA)
  | (refine w_PopStep 1 2 hA ok rfl rfl ?_; intro hA)
  | (refine w_PopStep 2 3 hA ok rfl rfl ?_; intro hA)
  | (refine w_PopStep 3 4 hA ok rfl rfl ?_; intro hA)
  | (refine w_PopStep 4 5 hA ok rfl rfl ?_; intro hA)
  | (refine w_PopStep 5 6 hA ok rfl rfl ?_; intro hA)
  | (refine w_PushStep 0 1 hA ok rfl rfl ?_; intro hA)
  | (refine w_PushStep 1 2 hA ok rfl rfl ?_; intro hA)
  | (refine w_PushStep 2 3 hA ok rfl rfl ?_; intro hA)
  | (refine w_PushStep 3 4 hA ok rfl rfl ?_; intro hA)
  | (refine w_PushStep 4 5 hA ok rfl rfl ?_; intro hA)
  | (refine w_PushStep 5 6 hA ok rfl rfl ?_; intro hA)
  | refine wp_true (by assumption) ?_
  | refine wp_false (by assumption) ?_)
  by_cases hd : x.done = true
  · rw [if_pos hd]
    refine wp_false (by rw [hd]; rfl) ?_
    repeat (first
  | refine wp_nil.2 ?_
  | refine w_ld 0 hA ok rfl rfl rfl ?_
  | refine w_ld 1 hA ok rfl rfl rfl ?_
  | refine w_ld 2 hA ok rfl rfl rfl ?_
  | refine w_ld 3 hA ok rfl rfl rfl ?_
  | refine w_ld 4 hA ok rfl rfl rfl ?_
  | refine w_ld 5 hA ok rfl rfl rfl ?_
  | refine w_ld 6 hA ok rfl rfl rfl ?_
  | refine w_ld 7 hA ok rfl rfl rfl ?_
  | refine w_st 0 hA ok rfl rfl rfl rfl ?_
  | refine w_st 1 hA ok rfl rfl rfl rfl ?_
  | refine w_st 2 hA ok rfl rfl rfl rfl ?_
  | refine w_st 3 hA ok rfl rfl rfl rfl ?_
  | refine w_st 4 hA ok rfl rfl rfl rfl ?_
  | refine w_st 5 hA ok rfl rfl rfl rfl ?_
  | refine w_st 6 hA ok rfl rfl rfl rfl ?_
  | refine w_st 7 hA ok rfl rfl rfl rfl ?_
  | refine w_ldA 0 hA ok rfl rfl rfl ?_
  | refine w_ldA 1 hA ok rfl rfl rfl ?_
  | refine w_ldA 2 hA ok rfl rfl rfl ?_
  | refine w_ldA 3 hA ok rfl rfl rfl ?_
  | refine w_ldA 4 hA ok rfl rfl rfl ?_
  | refine w_ldA 5 hA ok rfl rfl rfl ?_
  | refine w_ldA 6 hA ok rfl rfl rfl ?_
  | refine w_ldA 7 hA ok rfl rfl rfl ?_
  | refine w_stA 0 hA ok rfl rfl rfl rfl ?_
  | refine w_stA 1 hA ok rfl rfl rfl rfl ?_
  | refine w_stA 2 hA ok rfl rfl rfl rfl ?_
  | refine w_stA 3 hA ok rfl rfl rfl rfl ?_
  | refine w_stA 4 hA ok rfl rfl rfl rfl ?_
  | refine w_stA 5 hA ok rfl rfl rfl rfl ?_
  | refine w_stA 6 hA ok rfl rfl rfl rfl ?_
  | refine w_stA 7 hA ok rfl rfl rfl rfl ?_
  | (refine w_Raw hA ?_; intro hA)
  | (refine w_SetRaw hA ?_; intro hA)
  | (refine w_SwapRaw hA ?_; intro hA)
  | (refine w_AddRaw hA ?_; intro hA)
  | (refine w_Load hA ?_; intro hA)
  | (refine w_Store hA ?_; intro hA)
  | (refine w_Retire hA ?_; intro hA)
  | (refine w_Died hA ?_; intro hA)
  | (refine w_Born hA ?_; intro hA)
  | refine w_State hA ?_
  | refine w_Uses hA ?_
  | refine w_Fault hA ?_
  | refine w_Words hA ?_
  | refine w_Count hA ?_
  | refine wq_Size ?_
  | refine wq_Open ?_
  | refine wq_Pack ?_
  | refine wq_head ?_
  | refine w_ck 0 hA ok rfl rfl rfl ?_
  | refine w_ck 1 hA ok rfl rfl rfl ?_
  | refine w_ck 2 hA ok rfl rfl rfl ?_
  | refine w_ck 3 hA ok rfl rfl rfl ?_
  | refine w_ck 4 hA ok rfl rfl rfl ?_
  | refine w_ck 5 hA ok rfl rfl rfl ?_
  | refine w_ck 6 hA ok rfl rfl rfl ?_
  | refine w_ck 7 hA ok rfl rfl rfl ?_
  | refine w_ckn rfl ?_
  | refine w_Base 0 1 hA ok rfl rfl ?_
  | refine w_Base 1 2 hA ok rfl rfl ?_
  | refine w_Base 2 3 hA ok rfl rfl ?_
  | refine w_Base 3 4 hA ok rfl rfl ?_
  | refine w_Base 4 5 hA ok rfl rfl ?_
  | refine w_Base 5 6 hA ok rfl rfl ?_
  | (refine w_PopStep 0 1 hA ok rfl rfl ?_; intro hA)
  | (refine w_PopStep 1 2 hA ok rfl rfl ?_; intro hA)
  | (refine w_PopStep 2 3 hA ok rfl rfl ?_; intro hA)
  | (refine w_PopStep 3 4 hA ok rfl rfl ?_; intro hA)
  | (refine w_PopStep 4 5 hA ok rfl rfl ?_; intro hA)
  | (refine w_PopStep 5 6 hA ok rfl rfl ?_; intro hA)
  | (refine w_PushStep 0 1 hA ok rfl rfl ?_; intro hA)
  | (refine w_PushStep 1 2 hA ok rfl rfl ?_; intro hA)
  | (refine w_PushStep 2 3 hA ok rfl rfl ?_; intro hA)
  | (refine w_PushStep 3 4 hA ok rfl rfl ?_; intro hA)
  | (refine w_PushStep 4 5 hA ok rfl rfl ?_; intro hA)
  | (refine w_PushStep 5 6 hA ok rfl rfl ?_; intro hA)
  | refine wp_true (by assumption) ?_
  | refine wp_false (by assumption) ?_)
    exact wp_ret_of ⟨(q, q0, q1), rfl, rfl, rfl, ok, hA⟩
  · rw [if_neg hd]
    refine wp_true (by simpa using hd) ?_
    repeat (first
  | refine wp_nil.2 ?_
  | refine w_ld 0 hA ok rfl rfl rfl ?_
  | refine w_ld 1 hA ok rfl rfl rfl ?_
  | refine w_ld 2 hA ok rfl rfl rfl ?_
  | refine w_ld 3 hA ok rfl rfl rfl ?_
  | refine w_ld 4 hA ok rfl rfl rfl ?_
  | refine w_ld 5 hA ok rfl rfl rfl ?_
  | refine w_ld 6 hA ok rfl rfl rfl ?_
  | refine w_ld 7 hA ok rfl rfl rfl ?_
  | refine w_st 0 hA ok rfl rfl rfl rfl ?_
  | refine w_st 1 hA ok rfl rfl rfl rfl ?_
  | refine w_st 2 hA ok rfl rfl rfl rfl ?_
  | refine w_st 3 hA ok rfl rfl rfl rfl ?_
  | refine w_st 4 hA ok rfl rfl rfl rfl ?_
  | refine w_st 5 hA ok rfl rfl rfl rfl ?_
  | refine w_st 6 hA ok rfl rfl rfl rfl ?_
  | refine w_st 7 hA ok rfl rfl rfl rfl ?_
  | refine w_ldA 0 hA ok rfl rfl rfl ?_
  | refine w_ldA 1 hA ok rfl rfl rfl ?_
  | refine w_ldA 2 hA ok rfl rfl rfl ?_
  | refine w_ldA 3 hA ok rfl rfl rfl ?_
  | refine w_ldA 4 hA ok rfl rfl rfl ?_
  | refine w_ldA 5 hA ok rfl rfl rfl ?_
  | refine w_ldA 6 hA ok rfl rfl rfl ?_
  | refine w_ldA 7 hA ok rfl rfl rfl ?_
  | refine w_stA 0 hA ok rfl rfl rfl rfl ?_
  | refine w_stA 1 hA ok rfl rfl rfl rfl ?_
  | refine w_stA 2 hA ok rfl rfl rfl rfl ?_
  | refine w_stA 3 hA ok rfl rfl rfl rfl ?_
  | refine w_stA 4 hA ok rfl rfl rfl rfl ?_
  | refine w_stA 5 hA ok rfl rfl rfl rfl ?_
  | refine w_stA 6 hA ok rfl rfl rfl rfl ?_
  | refine w_stA 7 hA ok rfl rfl rfl rfl ?_
  | (refine w_Raw hA ?_; intro hA)
  | (refine w_SetRaw hA ?_; intro hA)
  | (refine w_SwapRaw hA ?_; intro hA)
  | (refine w_AddRaw hA ?_; intro hA)
  | (refine w_Load hA ?_; intro hA)
  | (refine w_Store hA ?_; intro hA)
  | (refine w_Retire hA ?_; intro hA)
  | (refine w_Died hA ?_; intro hA)
  | (refine w_Born hA ?_; intro hA)
  | refine w_State hA ?_
  | refine w_Uses hA ?_
  | refine w_Fault hA ?_
  | refine w_Words hA ?_
  | refine w_Count hA ?_
  | refine wq_Size ?_
  | refine wq_Open ?_
  | refine wq_Pack ?_
  | refine wq_head ?_
  | refine w_ck 0 hA ok rfl rfl rfl ?_
  | refine w_ck 1 hA ok rfl rfl rfl ?_
  | refine w_ck 2 hA ok rfl rfl rfl ?_
  | refine w_ck 3 hA ok rfl rfl rfl ?_
  | refine w_ck 4 hA ok rfl rfl rfl ?_
  | refine w_ck 5 hA ok rfl rfl rfl ?_
  | refine w_ck 6 hA ok rfl rfl rfl ?_
  | refine w_ck 7 hA ok rfl rfl rfl ?_
  | refine w_ckn rfl ?_
  | refine w_Base 0 1 hA ok rfl rfl ?_
  | refine w_Base 1 2 hA ok rfl rfl ?_
  | refine w_Base 2 3 hA ok rfl rfl ?_
  | refine w_Base 3 4 hA ok rfl rfl ?_
  | refine w_Base 4 5 hA ok rfl rfl ?_
  | refine w_Base 5 6 hA ok rfl rfl ?_
  | (refine w_PopStep 0 1 hA ok rfl rfl ?_; intro hA)
  | (refine w_PopStep 1 2 hA ok rfl rfl ?_; intro hA)
  | (refine w_PopStep 2 3 hA ok rfl rfl ?_; intro hA)
  | (refine w_PopStep 3 4 hA ok rfl rfl ?_; intro hA)
  | (refine w_PopStep 4 5 hA ok rfl rfl ?_; intro hA)
  | (refine w_PopStep 5 6 hA ok rfl rfl ?_; intro hA)
  | (refine w_PushStep 0 1 hA ok rfl rfl ?_; intro hA)
  | (refine w_PushStep 1 2 hA ok rfl rfl ?_; intro hA)
  | (refine w_PushStep 2 3 hA ok rfl rfl ?_; intro hA)
  | (refine w_PushStep 3 4 hA ok rfl rfl ?_; intro hA)
  | (refine w_PushStep 4 5 hA ok rfl rfl ?_; intro hA)
  | (refine w_PushStep 5 6 hA ok rfl rfl ?_; intro hA)
  | refine wp_true (by assumption) ?_
  | refine wp_false (by assumption) ?_)
    by_cases hb : x.pu.stepB A = true
    · rw [if_pos hb]
      refine wp_true hb ?_
      repeat (first
  | refine wp_nil.2 ?_
  | refine w_ld 0 hA ok rfl rfl rfl ?_
  | refine w_ld 1 hA ok rfl rfl rfl ?_
  | refine w_ld 2 hA ok rfl rfl rfl ?_
  | refine w_ld 3 hA ok rfl rfl rfl ?_
  | refine w_ld 4 hA ok rfl rfl rfl ?_
  | refine w_ld 5 hA ok rfl rfl rfl ?_
  | refine w_ld 6 hA ok rfl rfl rfl ?_
  | refine w_ld 7 hA ok rfl rfl rfl ?_
  | refine w_st 0 hA ok rfl rfl rfl rfl ?_
  | refine w_st 1 hA ok rfl rfl rfl rfl ?_
  | refine w_st 2 hA ok rfl rfl rfl rfl ?_
  | refine w_st 3 hA ok rfl rfl rfl rfl ?_
  | refine w_st 4 hA ok rfl rfl rfl rfl ?_
  | refine w_st 5 hA ok rfl rfl rfl rfl ?_
  | refine w_st 6 hA ok rfl rfl rfl rfl ?_
  | refine w_st 7 hA ok rfl rfl rfl rfl ?_
  | refine w_ldA 0 hA ok rfl rfl rfl ?_
  | refine w_ldA 1 hA ok rfl rfl rfl ?_
  | refine w_ldA 2 hA ok rfl rfl rfl ?_
  | refine w_ldA 3 hA ok rfl rfl rfl ?_
  | refine w_ldA 4 hA ok rfl rfl rfl ?_
  | refine w_ldA 5 hA ok rfl rfl rfl ?_
  | refine w_ldA 6 hA ok rfl rfl rfl ?_
  | refine w_ldA 7 hA ok rfl rfl rfl ?_
  | refine w_stA 0 hA ok rfl rfl rfl rfl ?_
  | refine w_stA 1 hA ok rfl rfl rfl rfl ?_
  | refine w_stA 2 hA ok rfl rfl rfl rfl ?_
  | refine w_stA 3 hA ok rfl rfl rfl rfl ?_
  | refine w_stA 4 hA ok rfl rfl rfl rfl ?_
  | refine w_stA 5 hA ok rfl rfl rfl rfl ?_
  | refine w_stA 6 hA ok rfl rfl rfl rfl ?_
  | refine w_stA 7 hA ok rfl rfl rfl rfl ?_
  | (refine w_Raw hA ?_; intro hA)
  | (refine w_SetRaw hA ?_; intro hA)
  | (refine w_SwapRaw hA ?_; intro hA)
  | (refine w_AddRaw hA ?_; intro hA)
  | (refine w_Load hA ?_; intro hA)
  | (refine w_Store hA ?_; intro hA)
  | (refine w_Retire hA ?_; intro hA)
  | (refine w_Died hA ?_; intro hA)
  | (refine w_Born hA ?_; intro hA)
  | refine w_State hA ?_
  | refine w_Uses hA ?_
  | refine w_Fault hA ?_
  | refine w_Words hA ?_
  | refine w_Count hA ?_
  | refine wq_Size ?_
  | refine wq_Open ?_
  | refine wq_Pack ?_
  | refine wq_head ?_
  | refine w_ck 0 hA ok rfl rfl rfl ?_
  | refine w_ck 1 hA ok rfl rfl rfl ?_
  | refine w_ck 2 hA ok rfl rfl rfl ?_
  | refine w_ck 3 hA ok rfl rfl rfl ?_
  | refine w_ck 4 hA ok rfl rfl rfl ?_
  | refine w_ck 5 hA ok rfl rfl rfl ?_
  | refine w_ck 6 hA ok rfl rfl rfl ?_
  | refine w_ck 7 hA ok rfl rfl rfl ?_
  | refine w_ckn rfl ?_
  | refine w_Base 0 1 hA ok rfl rfl ?_
  | refine w_Base 1 2 hA ok rfl rfl ?_
  | refine w_Base 2 3 hA ok rfl rfl ?_
  | refine w_Base 3 4 hA ok rfl rfl ?_
  | refine w_Base 4 5 hA ok rfl rfl ?_
  | refine w_Base 5 6 hA ok rfl rfl ?_
  | (refine w_PopStep 0 1 hA ok rfl rfl ?_; intro hA)
  | (refine w_PopStep 1 2 hA ok rfl rfl ?_; intro hA)
  | (refine w_PopStep 2 3 hA ok rfl rfl ?_; intro hA)
  | (refine w_PopStep 3 4 hA ok rfl rfl ?_; intro hA)
  | (refine w_PopStep 4 5 hA ok rfl rfl ?_; intro hA)
  | (refine w_PopStep 5 6 hA ok rfl rfl ?_; intro hA)
  | (refine w_PushStep 0 1 hA ok rfl rfl ?_; intro hA)
  | (refine w_PushStep 1 2 hA ok rfl rfl ?_; intro hA)
  | (refine w_PushStep 2 3 hA ok rfl rfl ?_; intro hA)
  | (refine w_PushStep 3 4 hA ok rfl rfl ?_; intro hA)
  | (refine w_PushStep 4 5 hA ok rfl rfl ?_; intro hA)
  | (refine w_PushStep 5 6 hA ok rfl rfl ?_; intro hA)
  | refine wp_true (by assumption) ?_
  | refine wp_false (by assumption) ?_)
      exact wp_ret_of ⟨(q, q0, q1), rfl, rfl, rfl, ok, hA⟩
    · rw [if_neg hb]
      refine wp_false (by simpa using hb) ?_
      repeat (first
  | refine wp_nil.2 ?_
  | refine w_ld 0 hA ok rfl rfl rfl ?_
  | refine w_ld 1 hA ok rfl rfl rfl ?_
  | refine w_ld 2 hA ok rfl rfl rfl ?_
  | refine w_ld 3 hA ok rfl rfl rfl ?_
  | refine w_ld 4 hA ok rfl rfl rfl ?_
  | refine w_ld 5 hA ok rfl rfl rfl ?_
  | refine w_ld 6 hA ok rfl rfl rfl ?_
  | refine w_ld 7 hA ok rfl rfl rfl ?_
  | refine w_st 0 hA ok rfl rfl rfl rfl ?_
  | refine w_st 1 hA ok rfl rfl rfl rfl ?_
  | refine w_st 2 hA ok rfl rfl rfl rfl ?_
  | refine w_st 3 hA ok rfl rfl rfl rfl ?_
  | refine w_st 4 hA ok rfl rfl rfl rfl ?_
  | refine w_st 5 hA ok rfl rfl rfl rfl ?_
  | refine w_st 6 hA ok rfl rfl rfl rfl ?_
  | refine w_st 7 hA ok rfl rfl rfl rfl ?_
  | refine w_ldA 0 hA ok rfl rfl rfl ?_
  | refine w_ldA 1 hA ok rfl rfl rfl ?_
  | refine w_ldA 2 hA ok rfl rfl rfl ?_
  | refine w_ldA 3 hA ok rfl rfl rfl ?_
  | refine w_ldA 4 hA ok rfl rfl rfl ?_
  | refine w_ldA 5 hA ok rfl rfl rfl ?_
  | refine w_ldA 6 hA ok rfl rfl rfl ?_
  | refine w_ldA 7 hA ok rfl rfl rfl ?_
  | refine w_stA 0 hA ok rfl rfl rfl rfl ?_
  | refine w_stA 1 hA ok rfl rfl rfl rfl ?_
  | refine w_stA 2 hA ok rfl rfl rfl rfl ?_
  | refine w_stA 3 hA ok rfl rfl rfl rfl ?_
  | refine w_stA 4 hA ok rfl rfl rfl rfl ?_
  | refine w_stA 5 hA ok rfl rfl rfl rfl ?_
  | refine w_stA 6 hA ok rfl rfl rfl rfl ?_
  | refine w_stA 7 hA ok rfl rfl rfl rfl ?_
  | (refine w_Raw hA ?_; intro hA)
  | (refine w_SetRaw hA ?_; intro hA)
  | (refine w_SwapRaw hA ?_; intro hA)
  | (refine w_AddRaw hA ?_; intro hA)
  | (refine w_Load hA ?_; intro hA)
  | (refine w_Store hA ?_; intro hA)
  | (refine w_Retire hA ?_; intro hA)
  | (refine w_Died hA ?_; intro hA)
  | (refine w_Born hA ?_; intro hA)
  | refine w_State hA ?_
  | refine w_Uses hA ?_
  | refine w_Fault hA ?_
  | refine w_Words hA ?_
  | refine w_Count hA ?_
  | refine wq_Size ?_
  | refine wq_Open ?_
  | refine wq_Pack ?_
  | refine wq_head ?_
  | refine w_ck 0 hA ok rfl rfl rfl ?_
  | refine w_ck 1 hA ok rfl rfl rfl ?_
  | refine w_ck 2 hA ok rfl rfl rfl ?_
  | refine w_ck 3 hA ok rfl rfl rfl ?_
  | refine w_ck 4 hA ok rfl rfl rfl ?_
  | refine w_ck 5 hA ok rfl rfl rfl ?_
  | refine w_ck 6 hA ok rfl rfl rfl ?_
  | refine w_ck 7 hA ok rfl rfl rfl ?_
  | refine w_ckn rfl ?_
  | refine w_Base 0 1 hA ok rfl rfl ?_
  | refine w_Base 1 2 hA ok rfl rfl ?_
  | refine w_Base 2 3 hA ok rfl rfl ?_
  | refine w_Base 3 4 hA ok rfl rfl ?_
  | refine w_Base 4 5 hA ok rfl rfl ?_
  | refine w_Base 5 6 hA ok rfl rfl ?_
  | (refine w_PopStep 0 1 hA ok rfl rfl ?_; intro hA)
  | (refine w_PopStep 1 2 hA ok rfl rfl ?_; intro hA)
  | (refine w_PopStep 2 3 hA ok rfl rfl ?_; intro hA)
  | (refine w_PopStep 3 4 hA ok rfl rfl ?_; intro hA)
  | (refine w_PopStep 4 5 hA ok rfl rfl ?_; intro hA)
  | (refine w_PopStep 5 6 hA ok rfl rfl ?_; intro hA)
  | (refine w_PushStep 0 1 hA ok rfl rfl ?_; intro hA)
  | (refine w_PushStep 1 2 hA ok rfl rfl ?_; intro hA)
  | (refine w_PushStep 2 3 hA ok rfl rfl ?_; intro hA)
  | (refine w_PushStep 3 4 hA ok rfl rfl ?_; intro hA)
  | (refine w_PushStep 4 5 hA ok rfl rfl ?_; intro hA)
  | (refine w_PushStep 5 6 hA ok rfl rfl ?_; intro hA)
  | refine wp_true (by assumption) ?_
  | refine wp_false (by assumption) ?_)
      exact wp_ret_of ⟨(q, q0, q1), rfl, rfl, rfl, ok, hA⟩

def newAl (p : Pl) (w c : Int) : Al := ⟨p, w, c, 0, 0, 0, 0, newPo p w c⟩
def newFe (p : Pl) (w h : Int) : Fe := ⟨h, false, ⟨p, headF p w (opC h), 0, 0, opB h⟩⟩

section
variable {L : Hands} {R : Value → Heap → Prop} {A : Ar} {I : List Nat} {l : Bl} {G : Heap}

theorem NewAlloc_own (p : Pl) (w c : Int) (hA : Aw I A) (hc : sizeF c ≠ 0) (G : Heap) :
    SpecF Try.prog f_slab_NewAlloc #[p.val, .int .i64 w, .int .i64 c] (own A [] G) fun v K => ∃ j : Nat × Nat × Nat, v = .pointer (some ⟨j.1, 0, none⟩) ∧ K = own A ((newAl p w c).bl j) G ∧ Ok I G (keys ((newAl p w c).bl j)) := by
  refine t_slab_NewAlloc_spec (p0_0 := p.work) (p0_1 := p.heads) (p0_2 := p.links) (p0_3 := p.gens) (p0_4 := p.carved) fun L => ?_
  unfold t_slab_NewAlloc
  have ok : Ok I G (keys []) := ⟨.nil, fun b h => (by cases h), fun b h => (by cases h)⟩
  refine w_newP hA ok fun e ok => ?_
  repeat (first
  | refine wp_nil.2 ?_
  | refine w_ld 0 hA ok rfl rfl rfl ?_
  | refine w_ld 1 hA ok rfl rfl rfl ?_
  | refine w_ld 2 hA ok rfl rfl rfl ?_
  | refine w_ld 3 hA ok rfl rfl rfl ?_
  | refine w_ld 4 hA ok rfl rfl rfl ?_
  | refine w_ld 5 hA ok rfl rfl rfl ?_
  | refine w_ld 6 hA ok rfl rfl rfl ?_
  | refine w_ld 7 hA ok rfl rfl rfl ?_
  | refine w_st 0 hA ok rfl rfl rfl rfl ?_
  | refine w_st 1 hA ok rfl rfl rfl rfl ?_
  | refine w_st 2 hA ok rfl rfl rfl rfl ?_
  | refine w_st 3 hA ok rfl rfl rfl rfl ?_
  | refine w_st 4 hA ok rfl rfl rfl rfl ?_
  | refine w_st 5 hA ok rfl rfl rfl rfl ?_
  | refine w_st 6 hA ok rfl rfl rfl rfl ?_
  | refine w_st 7 hA ok rfl rfl rfl rfl ?_
  | refine w_ldA 0 hA ok rfl rfl rfl ?_
  | refine w_ldA 1 hA ok rfl rfl rfl ?_
  | refine w_ldA 2 hA ok rfl rfl rfl ?_
  | refine w_ldA 3 hA ok rfl rfl rfl ?_
  | refine w_ldA 4 hA ok rfl rfl rfl ?_
  | refine w_ldA 5 hA ok rfl rfl rfl ?_
  | refine w_ldA 6 hA ok rfl rfl rfl ?_
  | refine w_ldA 7 hA ok rfl rfl rfl ?_
  | refine w_stA 0 hA ok rfl rfl rfl rfl ?_
  | refine w_stA 1 hA ok rfl rfl rfl rfl ?_
  | refine w_stA 2 hA ok rfl rfl rfl rfl ?_
  | refine w_stA 3 hA ok rfl rfl rfl rfl ?_
  | refine w_stA 4 hA ok rfl rfl rfl rfl ?_
  | refine w_stA 5 hA ok rfl rfl rfl rfl ?_
  | refine w_stA 6 hA ok rfl rfl rfl rfl ?_
  | refine w_stA 7 hA ok rfl rfl rfl rfl ?_
  | (refine w_Raw hA ?_; intro hA)
  | (refine w_SetRaw hA ?_; intro hA)
  | (refine w_SwapRaw hA ?_; intro hA)
  | (refine w_AddRaw hA ?_; intro hA)
  | (refine w_Load hA ?_; intro hA)
  | (refine w_Store hA ?_; intro hA)
  | (refine w_Retire hA ?_; intro hA)
  | (refine w_Died hA ?_; intro hA)
  | (refine w_Born hA ?_; intro hA)
  | refine w_State hA ?_
  | refine w_Uses hA ?_
  | refine w_Fault hA ?_
  | refine w_Words hA ?_
  | refine w_Count hA ?_
  | refine wq_Size ?_
  | refine wq_Open ?_
  | refine wq_Pack ?_
  | refine wq_head ?_
  | refine w_ck 0 hA ok rfl rfl rfl ?_
  | refine w_ck 1 hA ok rfl rfl rfl ?_
  | refine w_ck 2 hA ok rfl rfl rfl ?_
  | refine w_ck 3 hA ok rfl rfl rfl ?_
  | refine w_ck 4 hA ok rfl rfl rfl ?_
  | refine w_ck 5 hA ok rfl rfl rfl ?_
  | refine w_ck 6 hA ok rfl rfl rfl ?_
  | refine w_ck 7 hA ok rfl rfl rfl ?_
  | refine w_ckn rfl ?_
  | refine w_Base 0 1 hA ok rfl rfl ?_
  | refine w_Base 1 2 hA ok rfl rfl ?_
  | refine w_Base 2 3 hA ok rfl rfl ?_
  | refine w_Base 3 4 hA ok rfl rfl ?_
  | refine w_Base 4 5 hA ok rfl rfl ?_
  | refine w_Base 5 6 hA ok rfl rfl ?_
  | (refine w_PopStep 0 1 hA ok rfl rfl ?_; intro hA)
  | (refine w_PopStep 1 2 hA ok rfl rfl ?_; intro hA)
  | (refine w_PopStep 2 3 hA ok rfl rfl ?_; intro hA)
  | (refine w_PopStep 3 4 hA ok rfl rfl ?_; intro hA)
  | (refine w_PopStep 4 5 hA ok rfl rfl ?_; intro hA)
  | (refine w_PopStep 5 6 hA ok rfl rfl ?_; intro hA)
  | (refine w_PushStep 0 1 hA ok rfl rfl ?_; intro hA)
  | (refine w_PushStep 1 2 hA ok rfl rfl ?_; intro hA)
  | (refine w_PushStep 2 3 hA ok rfl rfl ?_; intro hA)
  | (refine w_PushStep 3 4 hA ok rfl rfl ?_; intro hA)
  | (refine w_PushStep 4 5 hA ok rfl rfl ?_; intro hA)
  | (refine w_PushStep 5 6 hA ok rfl rfl ?_; intro hA)
  | refine wp_true (by assumption) ?_
  | refine wp_false (by assumption) ?_)
  refine w_newP hA ok fun q ok => ?_
  repeat (first
  | refine wp_nil.2 ?_
  | refine w_ld 0 hA ok rfl rfl rfl ?_
  | refine w_ld 1 hA ok rfl rfl rfl ?_
  | refine w_ld 2 hA ok rfl rfl rfl ?_
  | refine w_ld 3 hA ok rfl rfl rfl ?_
  | refine w_ld 4 hA ok rfl rfl rfl ?_
  | refine w_ld 5 hA ok rfl rfl rfl ?_
  | refine w_ld 6 hA ok rfl rfl rfl ?_
  | refine w_ld 7 hA ok rfl rfl rfl ?_
  | refine w_st 0 hA ok rfl rfl rfl rfl ?_
  | refine w_st 1 hA ok rfl rfl rfl rfl ?_
  | refine w_st 2 hA ok rfl rfl rfl rfl ?_
  | refine w_st 3 hA ok rfl rfl rfl rfl ?_
  | refine w_st 4 hA ok rfl rfl rfl rfl ?_
  | refine w_st 5 hA ok rfl rfl rfl rfl ?_
  | refine w_st 6 hA ok rfl rfl rfl rfl ?_
  | refine w_st 7 hA ok rfl rfl rfl rfl ?_
  | refine w_ldA 0 hA ok rfl rfl rfl ?_
  | refine w_ldA 1 hA ok rfl rfl rfl ?_
  | refine w_ldA 2 hA ok rfl rfl rfl ?_
  | refine w_ldA 3 hA ok rfl rfl rfl ?_
  | refine w_ldA 4 hA ok rfl rfl rfl ?_
  | refine w_ldA 5 hA ok rfl rfl rfl ?_
  | refine w_ldA 6 hA ok rfl rfl rfl ?_
  | refine w_ldA 7 hA ok rfl rfl rfl ?_
  | refine w_stA 0 hA ok rfl rfl rfl rfl ?_
  | refine w_stA 1 hA ok rfl rfl rfl rfl ?_
  | refine w_stA 2 hA ok rfl rfl rfl rfl ?_
  | refine w_stA 3 hA ok rfl rfl rfl rfl ?_
  | refine w_stA 4 hA ok rfl rfl rfl rfl ?_
  | refine w_stA 5 hA ok rfl rfl rfl rfl ?_
  | refine w_stA 6 hA ok rfl rfl rfl rfl ?_
  | refine w_stA 7 hA ok rfl rfl rfl rfl ?_
  | (refine w_Raw hA ?_; intro hA)
  | (refine w_SetRaw hA ?_; intro hA)
  | (refine w_SwapRaw hA ?_; intro hA)
  | (refine w_AddRaw hA ?_; intro hA)
  | (refine w_Load hA ?_; intro hA)
  | (refine w_Store hA ?_; intro hA)
  | (refine w_Retire hA ?_; intro hA)
  | (refine w_Died hA ?_; intro hA)
  | (refine w_Born hA ?_; intro hA)
  | refine w_State hA ?_
  | refine w_Uses hA ?_
  | refine w_Fault hA ?_
  | refine w_Words hA ?_
  | refine w_Count hA ?_
  | refine wq_Size ?_
  | refine wq_Open ?_
  | refine wq_Pack ?_
  | refine wq_head ?_
  | refine w_ck 0 hA ok rfl rfl rfl ?_
  | refine w_ck 1 hA ok rfl rfl rfl ?_
  | refine w_ck 2 hA ok rfl rfl rfl ?_
  | refine w_ck 3 hA ok rfl rfl rfl ?_
  | refine w_ck 4 hA ok rfl rfl rfl ?_
  | refine w_ck 5 hA ok rfl rfl rfl ?_
  | refine w_ck 6 hA ok rfl rfl rfl ?_
  | refine w_ck 7 hA ok rfl rfl rfl ?_
  | refine w_ckn rfl ?_
  | refine w_Base 0 1 hA ok rfl rfl ?_
  | refine w_Base 1 2 hA ok rfl rfl ?_
  | refine w_Base 2 3 hA ok rfl rfl ?_
  | refine w_Base 3 4 hA ok rfl rfl ?_
  | refine w_Base 4 5 hA ok rfl rfl ?_
  | refine w_Base 5 6 hA ok rfl rfl ?_
  | (refine w_PopStep 0 1 hA ok rfl rfl ?_; intro hA)
  | (refine w_PopStep 1 2 hA ok rfl rfl ?_; intro hA)
  | (refine w_PopStep 2 3 hA ok rfl rfl ?_; intro hA)
  | (refine w_PopStep 3 4 hA ok rfl rfl ?_; intro hA)
  | (refine w_PopStep 4 5 hA ok rfl rfl ?_; intro hA)
  | (refine w_PopStep 5 6 hA ok rfl rfl ?_; intro hA)
  | (refine w_PushStep 0 1 hA ok rfl rfl ?_; intro hA)
  | (refine w_PushStep 1 2 hA ok rfl rfl ?_; intro hA)
  | (refine w_PushStep 2 3 hA ok rfl rfl ?_; intro hA)
  | (refine w_PushStep 3 4 hA ok rfl rfl ?_; intro hA)
  | (refine w_PushStep 4 5 hA ok rfl rfl ?_; intro hA)
  | (refine w_PushStep 5 6 hA ok rfl rfl ?_; intro hA)
  | refine wp_true (by assumption) ?_
  | refine wp_false (by assumption) ?_)
  refine wp_false (ibef hc) ?_
  repeat (first
  | refine wp_nil.2 ?_
  | refine w_ld 0 hA ok rfl rfl rfl ?_
  | refine w_ld 1 hA ok rfl rfl rfl ?_
  | refine w_ld 2 hA ok rfl rfl rfl ?_
  | refine w_ld 3 hA ok rfl rfl rfl ?_
  | refine w_ld 4 hA ok rfl rfl rfl ?_
  | refine w_ld 5 hA ok rfl rfl rfl ?_
  | refine w_ld 6 hA ok rfl rfl rfl ?_
  | refine w_ld 7 hA ok rfl rfl rfl ?_
  | refine w_st 0 hA ok rfl rfl rfl rfl ?_
  | refine w_st 1 hA ok rfl rfl rfl rfl ?_
  | refine w_st 2 hA ok rfl rfl rfl rfl ?_
  | refine w_st 3 hA ok rfl rfl rfl rfl ?_
  | refine w_st 4 hA ok rfl rfl rfl rfl ?_
  | refine w_st 5 hA ok rfl rfl rfl rfl ?_
  | refine w_st 6 hA ok rfl rfl rfl rfl ?_
  | refine w_st 7 hA ok rfl rfl rfl rfl ?_
  | refine w_ldA 0 hA ok rfl rfl rfl ?_
  | refine w_ldA 1 hA ok rfl rfl rfl ?_
  | refine w_ldA 2 hA ok rfl rfl rfl ?_
  | refine w_ldA 3 hA ok rfl rfl rfl ?_
  | refine w_ldA 4 hA ok rfl rfl rfl ?_
  | refine w_ldA 5 hA ok rfl rfl rfl ?_
  | refine w_ldA 6 hA ok rfl rfl rfl ?_
  | refine w_ldA 7 hA ok rfl rfl rfl ?_
  | refine w_stA 0 hA ok rfl rfl rfl rfl ?_
  | refine w_stA 1 hA ok rfl rfl rfl rfl ?_
  | refine w_stA 2 hA ok rfl rfl rfl rfl ?_
  | refine w_stA 3 hA ok rfl rfl rfl rfl ?_
  | refine w_stA 4 hA ok rfl rfl rfl rfl ?_
  | refine w_stA 5 hA ok rfl rfl rfl rfl ?_
  | refine w_stA 6 hA ok rfl rfl rfl rfl ?_
  | refine w_stA 7 hA ok rfl rfl rfl rfl ?_
  | (refine w_Raw hA ?_; intro hA)
  | (refine w_SetRaw hA ?_; intro hA)
  | (refine w_SwapRaw hA ?_; intro hA)
  | (refine w_AddRaw hA ?_; intro hA)
  | (refine w_Load hA ?_; intro hA)
  | (refine w_Store hA ?_; intro hA)
  | (refine w_Retire hA ?_; intro hA)
  | (refine w_Died hA ?_; intro hA)
  | (refine w_Born hA ?_; intro hA)
  | refine w_State hA ?_
  | refine w_Uses hA ?_
  | refine w_Fault hA ?_
  | refine w_Words hA ?_
  | refine w_Count hA ?_
  | refine wq_Size ?_
  | refine wq_Open ?_
  | refine wq_Pack ?_
  | refine wq_head ?_
  | refine w_ck 0 hA ok rfl rfl rfl ?_
  | refine w_ck 1 hA ok rfl rfl rfl ?_
  | refine w_ck 2 hA ok rfl rfl rfl ?_
  | refine w_ck 3 hA ok rfl rfl rfl ?_
  | refine w_ck 4 hA ok rfl rfl rfl ?_
  | refine w_ck 5 hA ok rfl rfl rfl ?_
  | refine w_ck 6 hA ok rfl rfl rfl ?_
  | refine w_ck 7 hA ok rfl rfl rfl ?_
  | refine w_ckn rfl ?_
  | refine w_Base 0 1 hA ok rfl rfl ?_
  | refine w_Base 1 2 hA ok rfl rfl ?_
  | refine w_Base 2 3 hA ok rfl rfl ?_
  | refine w_Base 3 4 hA ok rfl rfl ?_
  | refine w_Base 4 5 hA ok rfl rfl ?_
  | refine w_Base 5 6 hA ok rfl rfl ?_
  | (refine w_PopStep 0 1 hA ok rfl rfl ?_; intro hA)
  | (refine w_PopStep 1 2 hA ok rfl rfl ?_; intro hA)
  | (refine w_PopStep 2 3 hA ok rfl rfl ?_; intro hA)
  | (refine w_PopStep 3 4 hA ok rfl rfl ?_; intro hA)
  | (refine w_PopStep 4 5 hA ok rfl rfl ?_; intro hA)
  | (refine w_PopStep 5 6 hA ok rfl rfl ?_; intro hA)
  | (refine w_PushStep 0 1 hA ok rfl rfl ?_; intro hA)
  | (refine w_PushStep 1 2 hA ok rfl rfl ?_; intro hA)
  | (refine w_PushStep 2 3 hA ok rfl rfl ?_; intro hA)
  | (refine w_PushStep 3 4 hA ok rfl rfl ?_; intro hA)
  | (refine w_PushStep 4 5 hA ok rfl rfl ?_; intro hA)
  | (refine w_PushStep 5 6 hA ok rfl rfl ?_; intro hA)
  | refine wp_true (by assumption) ?_
  | refine wp_false (by assumption) ?_)
  refine w_NewPop (p := p) hA ok fun q0 q1 ok => ?_
  repeat (first
  | refine wp_nil.2 ?_
  | refine w_ld 0 hA ok rfl rfl rfl ?_
  | refine w_ld 1 hA ok rfl rfl rfl ?_
  | refine w_ld 2 hA ok rfl rfl rfl ?_
  | refine w_ld 3 hA ok rfl rfl rfl ?_
  | refine w_ld 4 hA ok rfl rfl rfl ?_
  | refine w_ld 5 hA ok rfl rfl rfl ?_
  | refine w_ld 6 hA ok rfl rfl rfl ?_
  | refine w_ld 7 hA ok rfl rfl rfl ?_
  | refine w_st 0 hA ok rfl rfl rfl rfl ?_
  | refine w_st 1 hA ok rfl rfl rfl rfl ?_
  | refine w_st 2 hA ok rfl rfl rfl rfl ?_
  | refine w_st 3 hA ok rfl rfl rfl rfl ?_
  | refine w_st 4 hA ok rfl rfl rfl rfl ?_
  | refine w_st 5 hA ok rfl rfl rfl rfl ?_
  | refine w_st 6 hA ok rfl rfl rfl rfl ?_
  | refine w_st 7 hA ok rfl rfl rfl rfl ?_
  | refine w_ldA 0 hA ok rfl rfl rfl ?_
  | refine w_ldA 1 hA ok rfl rfl rfl ?_
  | refine w_ldA 2 hA ok rfl rfl rfl ?_
  | refine w_ldA 3 hA ok rfl rfl rfl ?_
  | refine w_ldA 4 hA ok rfl rfl rfl ?_
  | refine w_ldA 5 hA ok rfl rfl rfl ?_
  | refine w_ldA 6 hA ok rfl rfl rfl ?_
  | refine w_ldA 7 hA ok rfl rfl rfl ?_
  | refine w_stA 0 hA ok rfl rfl rfl rfl ?_
  | refine w_stA 1 hA ok rfl rfl rfl rfl ?_
  | refine w_stA 2 hA ok rfl rfl rfl rfl ?_
  | refine w_stA 3 hA ok rfl rfl rfl rfl ?_
  | refine w_stA 4 hA ok rfl rfl rfl rfl ?_
  | refine w_stA 5 hA ok rfl rfl rfl rfl ?_
  | refine w_stA 6 hA ok rfl rfl rfl rfl ?_
  | refine w_stA 7 hA ok rfl rfl rfl rfl ?_
  | (refine w_Raw hA ?_; intro hA)
  | (refine w_SetRaw hA ?_; intro hA)
  | (refine w_SwapRaw hA ?_; intro hA)
  | (refine w_AddRaw hA ?_; intro hA)
  | (refine w_Load hA ?_; intro hA)
  | (refine w_Store hA ?_; intro hA)
  | (refine w_Retire hA ?_; intro hA)
  | (refine w_Died hA ?_; intro hA)
  | (refine w_Born hA ?_; intro hA)
  | refine w_State hA ?_
  | refine w_Uses hA ?_
  | refine w_Fault hA ?_
  | refine w_Words hA ?_
  | refine w_Count hA ?_
  | refine wq_Size ?_
  | refine wq_Open ?_
  | refine wq_Pack ?_
  | refine wq_head ?_
  | refine w_ck 0 hA ok rfl rfl rfl ?_
  | refine w_ck 1 hA ok rfl rfl rfl ?_
  | refine w_ck 2 hA ok rfl rfl rfl ?_
  | refine w_ck 3 hA ok rfl rfl rfl ?_
  | refine w_ck 4 hA ok rfl rfl rfl ?_
  | refine w_ck 5 hA ok rfl rfl rfl ?_
  | refine w_ck 6 hA ok rfl rfl rfl ?_
  | refine w_ck 7 hA ok rfl rfl rfl ?_
  | refine w_ckn rfl ?_
  | refine w_Base 0 1 hA ok rfl rfl ?_
  | refine w_Base 1 2 hA ok rfl rfl ?_
  | refine w_Base 2 3 hA ok rfl rfl ?_
  | refine w_Base 3 4 hA ok rfl rfl ?_
  | refine w_Base 4 5 hA ok rfl rfl ?_
  | refine w_Base 5 6 hA ok rfl rfl ?_
  | (refine w_PopStep 0 1 hA ok rfl rfl ?_; intro hA)
  | (refine w_PopStep 1 2 hA ok rfl rfl ?_; intro hA)
  | (refine w_PopStep 2 3 hA ok rfl rfl ?_; intro hA)
  | (refine w_PopStep 3 4 hA ok rfl rfl ?_; intro hA)
  | (refine w_PopStep 4 5 hA ok rfl rfl ?_; intro hA)
  | (refine w_PopStep 5 6 hA ok rfl rfl ?_; intro hA)
  | (refine w_PushStep 0 1 hA ok rfl rfl ?_; intro hA)
  | (refine w_PushStep 1 2 hA ok rfl rfl ?_; intro hA)
  | (refine w_PushStep 2 3 hA ok rfl rfl ?_; intro hA)
  | (refine w_PushStep 3 4 hA ok rfl rfl ?_; intro hA)
  | (refine w_PushStep 4 5 hA ok rfl rfl ?_; intro hA)
  | (refine w_PushStep 5 6 hA ok rfl rfl ?_; intro hA)
  | refine wp_true (by assumption) ?_
  | refine wp_false (by assumption) ?_)
  exact w_ret [2, 0, 1] ok rfl (by decide) fun ok => ⟨(q, q0, q1), rfl, rfl, ok⟩

theorem NewFree_own (p : Pl) (w h : Int) (hA : Aw I A) (G : Heap) :
    SpecF Try.prog f_slab_NewFree #[p.val, .int .i64 w, .int .i64 h] (own A [] G) fun v K => ∃ j : Nat × Nat × Nat, v = .pointer (some ⟨j.1, 0, none⟩) ∧ K = own A ((newFe p w h).bl j) G ∧ Ok I G (keys ((newFe p w h).bl j)) := by
  refine t_slab_NewFree_spec (p0_0 := p.work) (p0_1 := p.heads) (p0_2 := p.links) (p0_3 := p.gens) (p0_4 := p.carved) fun L => ?_
  unfold t_slab_NewFree
  have ok : Ok I G (keys []) := ⟨.nil, fun b h => (by cases h), fun b h => (by cases h)⟩
  refine w_newP hA ok fun e ok => ?_
  repeat (first
  | refine wp_nil.2 ?_
  | refine w_ld 0 hA ok rfl rfl rfl ?_
  | refine w_ld 1 hA ok rfl rfl rfl ?_
  | refine w_ld 2 hA ok rfl rfl rfl ?_
  | refine w_ld 3 hA ok rfl rfl rfl ?_
  | refine w_ld 4 hA ok rfl rfl rfl ?_
  | refine w_ld 5 hA ok rfl rfl rfl ?_
  | refine w_ld 6 hA ok rfl rfl rfl ?_
  | refine w_ld 7 hA ok rfl rfl rfl ?_
  | refine w_st 0 hA ok rfl rfl rfl rfl ?_
  | refine w_st 1 hA ok rfl rfl rfl rfl ?_
  | refine w_st 2 hA ok rfl rfl rfl rfl ?_
  | refine w_st 3 hA ok rfl rfl rfl rfl ?_
  | refine w_st 4 hA ok rfl rfl rfl rfl ?_
  | refine w_st 5 hA ok rfl rfl rfl rfl ?_
  | refine w_st 6 hA ok rfl rfl rfl rfl ?_
  | refine w_st 7 hA ok rfl rfl rfl rfl ?_
  | refine w_ldA 0 hA ok rfl rfl rfl ?_
  | refine w_ldA 1 hA ok rfl rfl rfl ?_
  | refine w_ldA 2 hA ok rfl rfl rfl ?_
  | refine w_ldA 3 hA ok rfl rfl rfl ?_
  | refine w_ldA 4 hA ok rfl rfl rfl ?_
  | refine w_ldA 5 hA ok rfl rfl rfl ?_
  | refine w_ldA 6 hA ok rfl rfl rfl ?_
  | refine w_ldA 7 hA ok rfl rfl rfl ?_
  | refine w_stA 0 hA ok rfl rfl rfl rfl ?_
  | refine w_stA 1 hA ok rfl rfl rfl rfl ?_
  | refine w_stA 2 hA ok rfl rfl rfl rfl ?_
  | refine w_stA 3 hA ok rfl rfl rfl rfl ?_
  | refine w_stA 4 hA ok rfl rfl rfl rfl ?_
  | refine w_stA 5 hA ok rfl rfl rfl rfl ?_
  | refine w_stA 6 hA ok rfl rfl rfl rfl ?_
  | refine w_stA 7 hA ok rfl rfl rfl rfl ?_
  | (refine w_Raw hA ?_; intro hA)
  | (refine w_SetRaw hA ?_; intro hA)
  | (refine w_SwapRaw hA ?_; intro hA)
  | (refine w_AddRaw hA ?_; intro hA)
  | (refine w_Load hA ?_; intro hA)
  | (refine w_Store hA ?_; intro hA)
  | (refine w_Retire hA ?_; intro hA)
  | (refine w_Died hA ?_; intro hA)
  | (refine w_Born hA ?_; intro hA)
  | refine w_State hA ?_
  | refine w_Uses hA ?_
  | refine w_Fault hA ?_
  | refine w_Words hA ?_
  | refine w_Count hA ?_
  | refine wq_Size ?_
  | refine wq_Open ?_
  | refine wq_Pack ?_
  | refine wq_head ?_
  | refine w_ck 0 hA ok rfl rfl rfl ?_
  | refine w_ck 1 hA ok rfl rfl rfl ?_
  | refine w_ck 2 hA ok rfl rfl rfl ?_
  | refine w_ck 3 hA ok rfl rfl rfl ?_
  | refine w_ck 4 hA ok rfl rfl rfl ?_
  | refine w_ck 5 hA ok rfl rfl rfl ?_
  | refine w_ck 6 hA ok rfl rfl rfl ?_
  | refine w_ck 7 hA ok rfl rfl rfl ?_
  | refine w_ckn rfl ?_
  | refine w_Base 0 1 hA ok rfl rfl ?_
  | refine w_Base 1 2 hA ok rfl rfl ?_
  | refine w_Base 2 3 hA ok rfl rfl ?_
  | refine w_Base 3 4 hA ok rfl rfl ?_
  | refine w_Base 4 5 hA ok rfl rfl ?_
  | refine w_Base 5 6 hA ok rfl rfl ?_
  | (refine w_PopStep 0 1 hA ok rfl rfl ?_; intro hA)
  | (refine w_PopStep 1 2 hA ok rfl rfl ?_; intro hA)
  | (refine w_PopStep 2 3 hA ok rfl rfl ?_; intro hA)
  | (refine w_PopStep 3 4 hA ok rfl rfl ?_; intro hA)
  | (refine w_PopStep 4 5 hA ok rfl rfl ?_; intro hA)
  | (refine w_PopStep 5 6 hA ok rfl rfl ?_; intro hA)
  | (refine w_PushStep 0 1 hA ok rfl rfl ?_; intro hA)
  | (refine w_PushStep 1 2 hA ok rfl rfl ?_; intro hA)
  | (refine w_PushStep 2 3 hA ok rfl rfl ?_; intro hA)
  | (refine w_PushStep 3 4 hA ok rfl rfl ?_; intro hA)
  | (refine w_PushStep 4 5 hA ok rfl rfl ?_; intro hA)
  | (refine w_PushStep 5 6 hA ok rfl rfl ?_; intro hA)
  | refine wp_true (by assumption) ?_
  | refine wp_false (by assumption) ?_)
  refine w_NewPush (p := p) hA ok fun q0 q1 ok => ?_
  repeat (first
  | refine wp_nil.2 ?_
  | refine w_ld 0 hA ok rfl rfl rfl ?_
  | refine w_ld 1 hA ok rfl rfl rfl ?_
  | refine w_ld 2 hA ok rfl rfl rfl ?_
  | refine w_ld 3 hA ok rfl rfl rfl ?_
  | refine w_ld 4 hA ok rfl rfl rfl ?_
  | refine w_ld 5 hA ok rfl rfl rfl ?_
  | refine w_ld 6 hA ok rfl rfl rfl ?_
  | refine w_ld 7 hA ok rfl rfl rfl ?_
  | refine w_st 0 hA ok rfl rfl rfl rfl ?_
  | refine w_st 1 hA ok rfl rfl rfl rfl ?_
  | refine w_st 2 hA ok rfl rfl rfl rfl ?_
  | refine w_st 3 hA ok rfl rfl rfl rfl ?_
  | refine w_st 4 hA ok rfl rfl rfl rfl ?_
  | refine w_st 5 hA ok rfl rfl rfl rfl ?_
  | refine w_st 6 hA ok rfl rfl rfl rfl ?_
  | refine w_st 7 hA ok rfl rfl rfl rfl ?_
  | refine w_ldA 0 hA ok rfl rfl rfl ?_
  | refine w_ldA 1 hA ok rfl rfl rfl ?_
  | refine w_ldA 2 hA ok rfl rfl rfl ?_
  | refine w_ldA 3 hA ok rfl rfl rfl ?_
  | refine w_ldA 4 hA ok rfl rfl rfl ?_
  | refine w_ldA 5 hA ok rfl rfl rfl ?_
  | refine w_ldA 6 hA ok rfl rfl rfl ?_
  | refine w_ldA 7 hA ok rfl rfl rfl ?_
  | refine w_stA 0 hA ok rfl rfl rfl rfl ?_
  | refine w_stA 1 hA ok rfl rfl rfl rfl ?_
  | refine w_stA 2 hA ok rfl rfl rfl rfl ?_
  | refine w_stA 3 hA ok rfl rfl rfl rfl ?_
  | refine w_stA 4 hA ok rfl rfl rfl rfl ?_
  | refine w_stA 5 hA ok rfl rfl rfl rfl ?_
  | refine w_stA 6 hA ok rfl rfl rfl rfl ?_
  | refine w_stA 7 hA ok rfl rfl rfl rfl ?_
  | (refine w_Raw hA ?_; intro hA)
  | (refine w_SetRaw hA ?_; intro hA)
  | (refine w_SwapRaw hA ?_; intro hA)
  | (refine w_AddRaw hA ?_; intro hA)
  | (refine w_Load hA ?_; intro hA)
  | (refine w_Store hA ?_; intro hA)
  | (refine w_Retire hA ?_; intro hA)
  | (refine w_Died hA ?_; intro hA)
  | (refine w_Born hA ?_; intro hA)
  | refine w_State hA ?_
  | refine w_Uses hA ?_
  | refine w_Fault hA ?_
  | refine w_Words hA ?_
  | refine w_Count hA ?_
  | refine wq_Size ?_
  | refine wq_Open ?_
  | refine wq_Pack ?_
  | refine wq_head ?_
  | refine w_ck 0 hA ok rfl rfl rfl ?_
  | refine w_ck 1 hA ok rfl rfl rfl ?_
  | refine w_ck 2 hA ok rfl rfl rfl ?_
  | refine w_ck 3 hA ok rfl rfl rfl ?_
  | refine w_ck 4 hA ok rfl rfl rfl ?_
  | refine w_ck 5 hA ok rfl rfl rfl ?_
  | refine w_ck 6 hA ok rfl rfl rfl ?_
  | refine w_ck 7 hA ok rfl rfl rfl ?_
  | refine w_ckn rfl ?_
  | refine w_Base 0 1 hA ok rfl rfl ?_
  | refine w_Base 1 2 hA ok rfl rfl ?_
  | refine w_Base 2 3 hA ok rfl rfl ?_
  | refine w_Base 3 4 hA ok rfl rfl ?_
  | refine w_Base 4 5 hA ok rfl rfl ?_
  | refine w_Base 5 6 hA ok rfl rfl ?_
  | (refine w_PopStep 0 1 hA ok rfl rfl ?_; intro hA)
  | (refine w_PopStep 1 2 hA ok rfl rfl ?_; intro hA)
  | (refine w_PopStep 2 3 hA ok rfl rfl ?_; intro hA)
  | (refine w_PopStep 3 4 hA ok rfl rfl ?_; intro hA)
  | (refine w_PopStep 4 5 hA ok rfl rfl ?_; intro hA)
  | (refine w_PopStep 5 6 hA ok rfl rfl ?_; intro hA)
  | (refine w_PushStep 0 1 hA ok rfl rfl ?_; intro hA)
  | (refine w_PushStep 1 2 hA ok rfl rfl ?_; intro hA)
  | (refine w_PushStep 2 3 hA ok rfl rfl ?_; intro hA)
  | (refine w_PushStep 3 4 hA ok rfl rfl ?_; intro hA)
  | (refine w_PushStep 4 5 hA ok rfl rfl ?_; intro hA)
  | (refine w_PushStep 5 6 hA ok rfl rfl ?_; intro hA)
  | refine wp_true (by assumption) ?_
  | refine wp_false (by assumption) ?_)
  refine w_newP hA ok fun q ok => ?_
  exact w_ret [0, 1, 2] ok rfl (by decide) fun ok => ⟨(q, q0, q1), rfl, rfl, ok⟩

theorem w_NewAlloc {p : Pl} {w c : Int} {k : Option Addr → Tree} (hA : Aw I A) (ok : Ok I G (keys l)) (hc : sizeF c ≠ 0) (h : ∀ j : Nat × Nat × Nat, Ok I G (keys ((newAl p w c).bl j ++ l)) → wp Try.prog (k (some ⟨j.1, 0, none⟩)) L (own A ((newAl p w c).bl j ++ l) G) R) :
    wp Try.prog (.call f_slab_NewAlloc [p.val, .int .i64 w, .int .i64 c] (.one (.leaf .ptr)) k) L (own A l G) R := w_make (fun G => NewAlloc_own p w c hA hc G) ok h
theorem w_NewFree {p : Pl} {w b : Int} {k : Option Addr → Tree} (hA : Aw I A) (ok : Ok I G (keys l)) (h : ∀ j : Nat × Nat × Nat, Ok I G (keys ((newFe p w b).bl j ++ l)) → wp Try.prog (k (some ⟨j.1, 0, none⟩)) L (own A ((newFe p w b).bl j ++ l) G) R) :
    wp Try.prog (.call f_slab_NewFree [p.val, .int .i64 w, .int .i64 b] (.one (.leaf .ptr)) k) L (own A l G) R := w_make (fun G => NewFree_own p w b hA G) ok h

theorem w_Handle (i : Nat) {q q0 : Nat} {x : Al} {k : HL Sh1.T [(.leaf (.int .i64)), (.leaf .bool)] → Tree} (hA : Aw I A) (ok : Ok I G (keys l)) (h0 : l[i]? = some (q, oc ty_slab_Alloc (x.cells q0)))
    (h : wp Try.prog (k (x.h, (x.h : Int) != 0, ())) L (own A l G) R) :
    wp Try.prog (.call f_slab_Alloc_Handle [.pointer (some ⟨q, 0, none⟩)] (.tup [(.leaf (.int .i64)), (.leaf .bool)]) k) L (own A l G) R := by
  refine wp_call_det (x := (x.h, (x.h : Int) != 0, ())) (H' := own A l G) ?_ h
  refine t_slab_Alloc_Handle_spec fun L => ?_
  unfold t_slab_Alloc_Handle
  refine wp_nil.2 (w_ld i hA ok rfl h0 rfl (wp_nil.2 (w_ld i hA ok rfl h0 rfl ?_)))
  exact wp_ret_of ⟨rfl, rfl⟩

/-- An alloc of a class that there is not. -/
def deadCells (p : Pl) (w c : Int) : List Value := [.pointer none, .int .i64 p.work, .int .i64 p.heads, .int .i64 p.links, .int .i64 p.gens, .int .i64 p.carved, .int .i64 w, .int .i64 c, .int .i64 0, .int .i64 4, .int .i64 0, .int .i64 0]
theorem NewAlloc_dead (p : Pl) (w c : Int) (hA : Aw I A) (hc : sizeF c = 0) (G : Heap) :
    SpecF Try.prog f_slab_NewAlloc #[p.val, .int .i64 w, .int .i64 c] (own A [] G) fun v K => ∃ q : Nat, v = .pointer (some ⟨q, 0, none⟩) ∧ K = own A [(q, oc ty_slab_Alloc (deadCells p w c))] G ∧ Ok I G (keys [(q, oc ty_slab_Alloc (deadCells p w c))]) := by
  refine t_slab_NewAlloc_spec (p0_0 := p.work) (p0_1 := p.heads) (p0_2 := p.links) (p0_3 := p.gens) (p0_4 := p.carved) fun L => ?_
  unfold t_slab_NewAlloc
  have ok : Ok I G (keys []) := ⟨.nil, fun b h => (by cases h), fun b h => (by cases h)⟩
  refine w_newP hA ok fun e ok => ?_
  repeat (first
  | refine wp_nil.2 ?_
  | refine w_ld 0 hA ok rfl rfl rfl ?_
  | refine w_ld 1 hA ok rfl rfl rfl ?_
  | refine w_ld 2 hA ok rfl rfl rfl ?_
  | refine w_ld 3 hA ok rfl rfl rfl ?_
  | refine w_ld 4 hA ok rfl rfl rfl ?_
  | refine w_ld 5 hA ok rfl rfl rfl ?_
  | refine w_ld 6 hA ok rfl rfl rfl ?_
  | refine w_ld 7 hA ok rfl rfl rfl ?_
  | refine w_st 0 hA ok rfl rfl rfl rfl ?_
  | refine w_st 1 hA ok rfl rfl rfl rfl ?_
  | refine w_st 2 hA ok rfl rfl rfl rfl ?_
  | refine w_st 3 hA ok rfl rfl rfl rfl ?_
  | refine w_st 4 hA ok rfl rfl rfl rfl ?_
  | refine w_st 5 hA ok rfl rfl rfl rfl ?_
  | refine w_st 6 hA ok rfl rfl rfl rfl ?_
  | refine w_st 7 hA ok rfl rfl rfl rfl ?_
  | refine w_ldA 0 hA ok rfl rfl rfl ?_
  | refine w_ldA 1 hA ok rfl rfl rfl ?_
  | refine w_ldA 2 hA ok rfl rfl rfl ?_
  | refine w_ldA 3 hA ok rfl rfl rfl ?_
  | refine w_ldA 4 hA ok rfl rfl rfl ?_
  | refine w_ldA 5 hA ok rfl rfl rfl ?_
  | refine w_ldA 6 hA ok rfl rfl rfl ?_
  | refine w_ldA 7 hA ok rfl rfl rfl ?_
  | refine w_stA 0 hA ok rfl rfl rfl rfl ?_
  | refine w_stA 1 hA ok rfl rfl rfl rfl ?_
  | refine w_stA 2 hA ok rfl rfl rfl rfl ?_
  | refine w_stA 3 hA ok rfl rfl rfl rfl ?_
  | refine w_stA 4 hA ok rfl rfl rfl rfl ?_
  | refine w_stA 5 hA ok rfl rfl rfl rfl ?_
  | refine w_stA 6 hA ok rfl rfl rfl rfl ?_
  | refine w_stA 7 hA ok rfl rfl rfl rfl ?_
  | (refine w_Raw hA ?_; intro hA)
  | (refine w_SetRaw hA ?_; intro hA)
  | (refine w_SwapRaw hA ?_; intro hA)
  | (refine w_AddRaw hA ?_; intro hA)
  | (refine w_Load hA ?_; intro hA)
  | (refine w_Store hA ?_; intro hA)
  | (refine w_Retire hA ?_; intro hA)
  | (refine w_Died hA ?_; intro hA)
  | (refine w_Born hA ?_; intro hA)
  | refine w_State hA ?_
  | refine w_Uses hA ?_
  | refine w_Fault hA ?_
  | refine w_Words hA ?_
  | refine w_Count hA ?_
  | refine wq_Size ?_
  | refine wq_Open ?_
  | refine wq_Pack ?_
  | refine wq_head ?_
  | refine w_ck 0 hA ok rfl rfl rfl ?_
  | refine w_ck 1 hA ok rfl rfl rfl ?_
  | refine w_ck 2 hA ok rfl rfl rfl ?_
  | refine w_ck 3 hA ok rfl rfl rfl ?_
  | refine w_ck 4 hA ok rfl rfl rfl ?_
  | refine w_ck 5 hA ok rfl rfl rfl ?_
  | refine w_ck 6 hA ok rfl rfl rfl ?_
  | refine w_ck 7 hA ok rfl rfl rfl ?_
  | refine w_ckn rfl ?_
  | refine w_Base 0 1 hA ok rfl rfl ?_
  | refine w_Base 1 2 hA ok rfl rfl ?_
  | refine w_Base 2 3 hA ok rfl rfl ?_
  | refine w_Base 3 4 hA ok rfl rfl ?_
  | refine w_Base 4 5 hA ok rfl rfl ?_
  | refine w_Base 5 6 hA ok rfl rfl ?_
  | (refine w_PopStep 0 1 hA ok rfl rfl ?_; intro hA)
  | (refine w_PopStep 1 2 hA ok rfl rfl ?_; intro hA)
  | (refine w_PopStep 2 3 hA ok rfl rfl ?_; intro hA)
  | (refine w_PopStep 3 4 hA ok rfl rfl ?_; intro hA)
  | (refine w_PopStep 4 5 hA ok rfl rfl ?_; intro hA)
  | (refine w_PopStep 5 6 hA ok rfl rfl ?_; intro hA)
  | (refine w_PushStep 0 1 hA ok rfl rfl ?_; intro hA)
  | (refine w_PushStep 1 2 hA ok rfl rfl ?_; intro hA)
  | (refine w_PushStep 2 3 hA ok rfl rfl ?_; intro hA)
  | (refine w_PushStep 3 4 hA ok rfl rfl ?_; intro hA)
  | (refine w_PushStep 4 5 hA ok rfl rfl ?_; intro hA)
  | (refine w_PushStep 5 6 hA ok rfl rfl ?_; intro hA)
  | refine wp_true (by assumption) ?_
  | refine wp_false (by assumption) ?_)
  refine w_newP hA ok fun q ok => ?_
  repeat (first
  | refine wp_nil.2 ?_
  | refine w_ld 0 hA ok rfl rfl rfl ?_
  | refine w_ld 1 hA ok rfl rfl rfl ?_
  | refine w_ld 2 hA ok rfl rfl rfl ?_
  | refine w_ld 3 hA ok rfl rfl rfl ?_
  | refine w_ld 4 hA ok rfl rfl rfl ?_
  | refine w_ld 5 hA ok rfl rfl rfl ?_
  | refine w_ld 6 hA ok rfl rfl rfl ?_
  | refine w_ld 7 hA ok rfl rfl rfl ?_
  | refine w_st 0 hA ok rfl rfl rfl rfl ?_
  | refine w_st 1 hA ok rfl rfl rfl rfl ?_
  | refine w_st 2 hA ok rfl rfl rfl rfl ?_
  | refine w_st 3 hA ok rfl rfl rfl rfl ?_
  | refine w_st 4 hA ok rfl rfl rfl rfl ?_
  | refine w_st 5 hA ok rfl rfl rfl rfl ?_
  | refine w_st 6 hA ok rfl rfl rfl rfl ?_
  | refine w_st 7 hA ok rfl rfl rfl rfl ?_
  | refine w_ldA 0 hA ok rfl rfl rfl ?_
  | refine w_ldA 1 hA ok rfl rfl rfl ?_
  | refine w_ldA 2 hA ok rfl rfl rfl ?_
  | refine w_ldA 3 hA ok rfl rfl rfl ?_
  | refine w_ldA 4 hA ok rfl rfl rfl ?_
  | refine w_ldA 5 hA ok rfl rfl rfl ?_
  | refine w_ldA 6 hA ok rfl rfl rfl ?_
  | refine w_ldA 7 hA ok rfl rfl rfl ?_
  | refine w_stA 0 hA ok rfl rfl rfl rfl ?_
  | refine w_stA 1 hA ok rfl rfl rfl rfl ?_
  | refine w_stA 2 hA ok rfl rfl rfl rfl ?_
  | refine w_stA 3 hA ok rfl rfl rfl rfl ?_
  | refine w_stA 4 hA ok rfl rfl rfl rfl ?_
  | refine w_stA 5 hA ok rfl rfl rfl rfl ?_
  | refine w_stA 6 hA ok rfl rfl rfl rfl ?_
  | refine w_stA 7 hA ok rfl rfl rfl rfl ?_
  | (refine w_Raw hA ?_; intro hA)
  | (refine w_SetRaw hA ?_; intro hA)
  | (refine w_SwapRaw hA ?_; intro hA)
  | (refine w_AddRaw hA ?_; intro hA)
  | (refine w_Load hA ?_; intro hA)
  | (refine w_Store hA ?_; intro hA)
  | (refine w_Retire hA ?_; intro hA)
  | (refine w_Died hA ?_; intro hA)
  | (refine w_Born hA ?_; intro hA)
  | refine w_State hA ?_
  | refine w_Uses hA ?_
  | refine w_Fault hA ?_
  | refine w_Words hA ?_
  | refine w_Count hA ?_
  | refine wq_Size ?_
  | refine wq_Open ?_
  | refine wq_Pack ?_
  | refine wq_head ?_
  | refine w_ck 0 hA ok rfl rfl rfl ?_
  | refine w_ck 1 hA ok rfl rfl rfl ?_
  | refine w_ck 2 hA ok rfl rfl rfl ?_
  | refine w_ck 3 hA ok rfl rfl rfl ?_
  | refine w_ck 4 hA ok rfl rfl rfl ?_
  | refine w_ck 5 hA ok rfl rfl rfl ?_
  | refine w_ck 6 hA ok rfl rfl rfl ?_
  | refine w_ck 7 hA ok rfl rfl rfl ?_
  | refine w_ckn rfl ?_
  | refine w_Base 0 1 hA ok rfl rfl ?_
  | refine w_Base 1 2 hA ok rfl rfl ?_
  | refine w_Base 2 3 hA ok rfl rfl ?_
  | refine w_Base 3 4 hA ok rfl rfl ?_
  | refine w_Base 4 5 hA ok rfl rfl ?_
  | refine w_Base 5 6 hA ok rfl rfl ?_
  | (refine w_PopStep 0 1 hA ok rfl rfl ?_; intro hA)
  | (refine w_PopStep 1 2 hA ok rfl rfl ?_; intro hA)
  | (refine w_PopStep 2 3 hA ok rfl rfl ?_; intro hA)
  | (refine w_PopStep 3 4 hA ok rfl rfl ?_; intro hA)
  | (refine w_PopStep 4 5 hA ok rfl rfl ?_; intro hA)
  | (refine w_PopStep 5 6 hA ok rfl rfl ?_; intro hA)
  | (refine w_PushStep 0 1 hA ok rfl rfl ?_; intro hA)
  | (refine w_PushStep 1 2 hA ok rfl rfl ?_; intro hA)
  | (refine w_PushStep 2 3 hA ok rfl rfl ?_; intro hA)
  | (refine w_PushStep 3 4 hA ok rfl rfl ?_; intro hA)
  | (refine w_PushStep 4 5 hA ok rfl rfl ?_; intro hA)
  | (refine w_PushStep 5 6 hA ok rfl rfl ?_; intro hA)
  | refine wp_true (by assumption) ?_
  | refine wp_false (by assumption) ?_)
  refine wp_true (ibeq hc) ?_
  repeat (first
  | refine wp_nil.2 ?_
  | refine w_ld 0 hA ok rfl rfl rfl ?_
  | refine w_ld 1 hA ok rfl rfl rfl ?_
  | refine w_ld 2 hA ok rfl rfl rfl ?_
  | refine w_ld 3 hA ok rfl rfl rfl ?_
  | refine w_ld 4 hA ok rfl rfl rfl ?_
  | refine w_ld 5 hA ok rfl rfl rfl ?_
  | refine w_ld 6 hA ok rfl rfl rfl ?_
  | refine w_ld 7 hA ok rfl rfl rfl ?_
  | refine w_st 0 hA ok rfl rfl rfl rfl ?_
  | refine w_st 1 hA ok rfl rfl rfl rfl ?_
  | refine w_st 2 hA ok rfl rfl rfl rfl ?_
  | refine w_st 3 hA ok rfl rfl rfl rfl ?_
  | refine w_st 4 hA ok rfl rfl rfl rfl ?_
  | refine w_st 5 hA ok rfl rfl rfl rfl ?_
  | refine w_st 6 hA ok rfl rfl rfl rfl ?_
  | refine w_st 7 hA ok rfl rfl rfl rfl ?_
  | refine w_ldA 0 hA ok rfl rfl rfl ?_
  | refine w_ldA 1 hA ok rfl rfl rfl ?_
  | refine w_ldA 2 hA ok rfl rfl rfl ?_
  | refine w_ldA 3 hA ok rfl rfl rfl ?_
  | refine w_ldA 4 hA ok rfl rfl rfl ?_
  | refine w_ldA 5 hA ok rfl rfl rfl ?_
  | refine w_ldA 6 hA ok rfl rfl rfl ?_
  | refine w_ldA 7 hA ok rfl rfl rfl ?_
  | refine w_stA 0 hA ok rfl rfl rfl rfl ?_
  | refine w_stA 1 hA ok rfl rfl rfl rfl ?_
  | refine w_stA 2 hA ok rfl rfl rfl rfl ?_
  | refine w_stA 3 hA ok rfl rfl rfl rfl ?_
  | refine w_stA 4 hA ok rfl rfl rfl rfl ?_
  | refine w_stA 5 hA ok rfl rfl rfl rfl ?_
  | refine w_stA 6 hA ok rfl rfl rfl rfl ?_
  | refine w_stA 7 hA ok rfl rfl rfl rfl ?_
  | (refine w_Raw hA ?_; intro hA)
  | (refine w_SetRaw hA ?_; intro hA)
  | (refine w_SwapRaw hA ?_; intro hA)
  | (refine w_AddRaw hA ?_; intro hA)
  | (refine w_Load hA ?_; intro hA)
  | (refine w_Store hA ?_; intro hA)
  | (refine w_Retire hA ?_; intro hA)
  | (refine w_Died hA ?_; intro hA)
  | (refine w_Born hA ?_; intro hA)
  | refine w_State hA ?_
  | refine w_Uses hA ?_
  | refine w_Fault hA ?_
  | refine w_Words hA ?_
  | refine w_Count hA ?_
  | refine wq_Size ?_
  | refine wq_Open ?_
  | refine wq_Pack ?_
  | refine wq_head ?_
  | refine w_ck 0 hA ok rfl rfl rfl ?_
  | refine w_ck 1 hA ok rfl rfl rfl ?_
  | refine w_ck 2 hA ok rfl rfl rfl ?_
  | refine w_ck 3 hA ok rfl rfl rfl ?_
  | refine w_ck 4 hA ok rfl rfl rfl ?_
  | refine w_ck 5 hA ok rfl rfl rfl ?_
  | refine w_ck 6 hA ok rfl rfl rfl ?_
  | refine w_ck 7 hA ok rfl rfl rfl ?_
  | refine w_ckn rfl ?_
  | refine w_Base 0 1 hA ok rfl rfl ?_
  | refine w_Base 1 2 hA ok rfl rfl ?_
  | refine w_Base 2 3 hA ok rfl rfl ?_
  | refine w_Base 3 4 hA ok rfl rfl ?_
  | refine w_Base 4 5 hA ok rfl rfl ?_
  | refine w_Base 5 6 hA ok rfl rfl ?_
  | (refine w_PopStep 0 1 hA ok rfl rfl ?_; intro hA)
  | (refine w_PopStep 1 2 hA ok rfl rfl ?_; intro hA)
  | (refine w_PopStep 2 3 hA ok rfl rfl ?_; intro hA)
  | (refine w_PopStep 3 4 hA ok rfl rfl ?_; intro hA)
  | (refine w_PopStep 4 5 hA ok rfl rfl ?_; intro hA)
  | (refine w_PopStep 5 6 hA ok rfl rfl ?_; intro hA)
  | (refine w_PushStep 0 1 hA ok rfl rfl ?_; intro hA)
  | (refine w_PushStep 1 2 hA ok rfl rfl ?_; intro hA)
  | (refine w_PushStep 2 3 hA ok rfl rfl ?_; intro hA)
  | (refine w_PushStep 3 4 hA ok rfl rfl ?_; intro hA)
  | (refine w_PushStep 4 5 hA ok rfl rfl ?_; intro hA)
  | (refine w_PushStep 5 6 hA ok rfl rfl ?_; intro hA)
  | refine wp_true (by assumption) ?_
  | refine wp_false (by assumption) ?_)
  exact w_ret [0] ok rfl (by decide) fun ok => ⟨q, rfl, rfl, ok⟩
def mAd (p : Pl) (w c : Int) : Mch Unit Nat where
  f := f_slab_Alloc_Step
  addr := fun j => j
  bl := fun _ j => [(j, oc ty_slab_Alloc (deadCells p w c))]
  inv := fun _ _ => True
  step := fun x A => (x, A)
  fin := fun _ => true
theorem mAd_ok (p : Pl) (w c : Int) : (mAd p w c).ok := by
  rintro I A G x q hA ok hl
  have ok : Ok I G [q] := ok
  refine t_slab_Alloc_Step_spec fun L => ?_
  unfold t_slab_Alloc_Step
  show wp Try.prog _ L (own A [(q, oc ty_slab_Alloc (deadCells p w c))] G) _
  repeat (first | (first
  | refine wp_nil.2 ?_
  | refine w_ld 0 hA ok rfl rfl rfl ?_
  | refine w_ld 1 hA ok rfl rfl rfl ?_
  | refine w_ld 2 hA ok rfl rfl rfl ?_
  | refine w_ld 3 hA ok rfl rfl rfl ?_
  | refine w_ld 4 hA ok rfl rfl rfl ?_
  | refine w_ld 5 hA ok rfl rfl rfl ?_
  | refine w_ld 6 hA ok rfl rfl rfl ?_
  | refine w_ld 7 hA ok rfl rfl rfl ?_
  | refine w_st 0 hA ok rfl rfl rfl rfl ?_
  | refine w_st 1 hA ok rfl rfl rfl rfl ?_
  | refine w_st 2 hA ok rfl rfl rfl rfl ?_
  | refine w_st 3 hA ok rfl rfl rfl rfl ?_
  | refine w_st 4 hA ok rfl rfl rfl rfl ?_
  | refine w_st 5 hA ok rfl rfl rfl rfl ?_
  | refine w_st 6 hA ok rfl rfl rfl rfl ?_
  | refine w_st 7 hA ok rfl rfl rfl rfl ?_
  | refine w_ldA 0 hA ok rfl rfl rfl ?_
  | refine w_ldA 1 hA ok rfl rfl rfl ?_
  | refine w_ldA 2 hA ok rfl rfl rfl ?_
  | refine w_ldA 3 hA ok rfl rfl rfl ?_
  | refine w_ldA 4 hA ok rfl rfl rfl ?_
  | refine w_ldA 5 hA ok rfl rfl rfl ?_
  | refine w_ldA 6 hA ok rfl rfl rfl ?_
  | refine w_ldA 7 hA ok rfl rfl rfl ?_
  | refine w_stA 0 hA ok rfl rfl rfl rfl ?_
  | refine w_stA 1 hA ok rfl rfl rfl rfl ?_
  | refine w_stA 2 hA ok rfl rfl rfl rfl ?_
  | refine w_stA 3 hA ok rfl rfl rfl rfl ?_
  | refine w_stA 4 hA ok rfl rfl rfl rfl ?_
  | refine w_stA 5 hA ok rfl rfl rfl rfl ?_
  | refine w_stA 6 hA ok rfl rfl rfl rfl ?_
  | refine w_stA 7 hA ok rfl rfl rfl rfl ?_
  | (refine w_Raw hA ?_; intro hA)
  | (refine w_SetRaw hA ?_; intro hA)
  | (refine w_SwapRaw hA ?_; intro hA)
  | (refine w_AddRaw hA ?_; intro hA)
  | (refine w_Load hA ?_; intro hA)
  | (refine w_Store hA ?_; intro hA)
  | (refine w_Retire hA ?_; intro hA)
  | (refine w_Died hA ?_; intro hA)
  | (refine w_Born hA ?_; intro hA)
  | refine w_State hA ?_
  | refine w_Uses hA ?_
  | refine w_Fault hA ?_
  | refine w_Words hA ?_
  | refine w_Count hA ?_
  | refine wq_Size ?_
  | refine wq_Open ?_
  | refine wq_Pack ?_
  | refine wq_head ?_
  | refine w_ck 0 hA ok rfl rfl rfl ?_
  | refine w_ck 1 hA ok rfl rfl rfl ?_
  | refine w_ck 2 hA ok rfl rfl rfl ?_
  | refine w_ck 3 hA ok rfl rfl rfl ?_
  | refine w_ck 4 hA ok rfl rfl rfl ?_
  | refine w_ck 5 hA ok rfl rfl rfl ?_
  | refine w_ck 6 hA ok rfl rfl rfl ?_
  | refine w_ck 7 hA ok rfl rfl rfl ?_
  | refine w_ckn rfl ?_
  | refine w_Base 0 1 hA ok rfl rfl ?_
  | refine w_Base 1 2 hA ok rfl rfl ?_
  | refine w_Base 2 3 hA ok rfl rfl ?_
  | refine w_Base 3 4 hA ok rfl rfl ?_
  | refine w_Base 4 5 hA ok rfl rfl ?_
  | refine w_Base 5 6 hA ok rfl rfl ?_
  | (refine w_PopStep 0 1 hA ok rfl rfl ?_; intro hA)
  | (refine w_PopStep 1 2 hA ok rfl rfl ?_; intro hA)
  | (refine w_PopStep 2 3 hA ok rfl rfl ?_; intro hA)
  | (refine w_PopStep 3 4 hA ok rfl rfl ?_; intro hA)
  | (refine w_PopStep 4 5 hA ok rfl rfl ?_; intro hA)
  | (refine w_PopStep 5 6 hA ok rfl rfl ?_; intro hA)
  | (refine w_PushStep 0 1 hA ok rfl rfl ?_; intro hA)
  | (refine w_PushStep 1 2 hA ok rfl rfl ?_; intro hA)
  | (refine w_PushStep 2 3 hA ok rfl rfl ?_; intro hA)
  | (refine w_PushStep 3 4 hA ok rfl rfl ?_; intro hA)
  | (refine w_PushStep 4 5 hA ok rfl rfl ?_; intro hA)
  | (refine w_PushStep 5 6 hA ok rfl rfl ?_; intro hA)
  | refine wp_true (by assumption) ?_
  | refine wp_false (by assumption) ?_) | (first
  | refine wp_true (by first | rfl | assumption | exact ibeq (by omega) | exact ibne (by omega) | exact decide_eq_true (by omega)) ?_
  | refine wp_false (by first | rfl | assumption | exact ibef (by omega) | exact ibnf (by omega) | exact decide_eq_false (by omega)) ?_))
  exact wp_ret_of ⟨q, rfl, rfl, rfl, ok, hA⟩
end
end Go.Proofs.Ytfphgiipekkgdaa

set_option linter.unusedVariables false
set_option linter.unusedSimpArgs false
set_option maxRecDepth 20000
namespace Go.Proofs.Ytfphgiipekkgdaa
open Go Go.Fw

/-! ### The slab, by what is in it -/

/-- Lists; how many words are carved; how often a base was born; which bases there are, of what class; how many words were born. -/
structure Sg where
  ch : Int → List Int
  cv : Int
  gn : Int → Int
  cl : Int → Int
  nc : Int

def updI (f : Int → Int) (k v : Int) : Int → Int := fun j => if j = k then v else f j

structure SL (A : Ar) (p : Pl) (w m : Int) (S : Sg) : Prop where
  F : FL A p w ((m + 7) / 8) S.ch
  pl : p = plOf w m
  wb : 1 ≤ w ∧ w ≤ 100
  mb : 0 ≤ m ∧ m ≤ 60000
  rl : p.carved < A.raw.length
  wl : (A.words.length : Int) = m
  fr : A.fresh = false
  cvr : A.rawF p.carved = S.cv
  cvb : 0 ≤ S.cv ∧ S.cv ≤ m ∧ S.cv % 8 = 0
  gnr : ∀ b, 0 ≤ b → b < m → b % 8 = 0 → A.rawF (p.gens + b / 8) = S.gn b ∧ (alGet A.gens b).getD 0 ≤ S.gn b
  gnb : ∀ b, 0 ≤ S.gn b ∧ S.gn b ≤ A.uses
  gnz : ∀ b, S.cv ≤ b → S.gn b = 0
  blk : ∀ b, S.cl b ≠ -1 → 0 ≤ S.cl b ∧ S.cl b < 4 ∧ 0 ≤ b ∧ b % 8 = 0 ∧ b + sizeF (S.cl b) ≤ S.cv
  dis : ∀ b c, S.cl b ≠ -1 → S.cl c ≠ -1 → b < c → b + sizeF (S.cl b) ≤ c
  chc : ∀ k b, b ∈ S.ch k → S.cl b = k % 4
  act : ∀ h, A.stF h ≠ 0 → S.cl (opB h) = opC h ∧ ∀ k, opB h ∉ S.ch k
  bz : ∀ i : Nat, A.busy.getD i false = true → ∃ h, A.stF h ≠ 0 ∧ opB h ≤ i ∧ (i : Int) < opB h + sizeF (opC h)
  cr1 : ∀ i : Nat, S.cv ≤ i → A.carved.getD i false = false
  cr2 : ∀ b, S.cl b ≠ -1 → ∀ i : Nat, b ≤ i → (i : Int) < b + sizeF (S.cl b) → A.carved.getD i false = decide (1 ≤ S.gn b)
  cnt : A.nC = S.nc ∧ A.nF = S.nc - A.nL - A.nR
  ncb : 0 ≤ S.nc ∧ S.nc ≤ 64 * (A.uses + 1)
  cnb : -(64 * (A.uses + 1)) ≤ A.nL ∧ A.nL ≤ 64 * (A.uses + 1) ∧ -(64 * (A.uses + 1)) ≤ A.nR ∧ A.nR ≤ 64 * (A.uses + 1)

section
variable {A B : Ar} {p : Pl} {w m : Int} {S : Sg}

theorem SL.places (X : SL A p w m S) : p.heads = 0 ∧ p.links = 4 * w ∧ p.gens = 4 * w + (m + 7) / 8 ∧ p.carved = 4 * w + 2 * ((m + 7) / 8) ∧ p.work = w := by rw [X.pl]; exact ⟨rfl, rfl, rfl, rfl, rfl⟩

theorem sz_pos {c : Int} (h0 : 0 ≤ c) (h1 : c < 4) : 8 ≤ sizeF c ∧ sizeF c ≤ 64 ∧ sizeF c % 8 = 0 := by
  rcases sizeF_cases h0 h1 with ⟨_, h⟩ | ⟨_, h⟩ | ⟨_, h⟩ | ⟨_, h⟩ <;> rw [h] <;> decide

/-- What is no part of the slab. -/
theorem SL.congr (X : SL A p w m S) (hr : ∀ i, 0 ≤ i → i ≤ p.carved → B.rawF i = A.rawF i) (hl : B.raw.length = A.raw.length) (hu : A.uses ≤ B.uses) (hw : B.words.length = A.words.length) (hs : ∀ h, B.stF h = A.stF h)
    (hb : B.busy = A.busy) (hc : B.carved = A.carved) (hg : B.gens = A.gens) (hf : B.fresh = A.fresh) (n1 : B.nC = A.nC) (n2 : B.nF = A.nF) (n3 : B.nL = A.nL) (n4 : B.nR = A.nR) : SL B p w m S := by
  obtain ⟨p1, p2, p3, p4, p5⟩ := X.places
  have wb := X.wb
  have mb := X.mb
  refine ⟨X.F.congr (fun i h0 h1 => hr i h0 (by omega)) hl hu, X.pl, X.wb, X.mb, by rw [hl]; exact X.rl, by rw [hw]; exact X.wl, by rw [hf]; exact X.fr, ?_, X.cvb, ?_, ?_, X.gnz, X.blk, X.dis, X.chc, ?_, ?_, ?_, ?_, ?_, ?_, ?_⟩
  · rw [hr _ (by omega) (by omega)]; exact X.cvr
  · intro b h0 h1 h2; rw [hr _ (by omega) (by omega), hg]; exact X.gnr b h0 h1 h2
  · intro b; have := X.gnb b; omega
  · intro h; rw [hs]; exact X.act h
  · intro i hi; rw [hb] at hi; obtain ⟨h, h1, h2, h3⟩ := X.bz i hi; exact ⟨h, by rw [hs]; exact h1, h2, h3⟩
  · intro i hi; rw [hc]; exact X.cr1 i hi
  · intro b hb i h0 h1; rw [hc]; exact X.cr2 b hb i h0 h1
  · rw [n1, n2, n3, n4]; exact X.cnt
  · have := X.ncb; omega
  · have := X.cnb; rw [n3, n4]; omega

theorem SL.later (X : SL A p w m S) {n : Int} (hn : 0 ≤ n) : SL (A.later n) p w m S :=
  X.congr (fun _ _ _ => rfl) rfl (by show A.uses ≤ A.uses + n; omega) rfl (fun h => stF_slots rfl h) rfl rfl rfl rfl rfl rfl rfl rfl

/-- A base is taken from a list. -/
theorem SL.pop (X : SL A p w m S) (hu : A.uses ≤ 1000000000) {k b : Int} {l : List Int} (hk : S.ch k = b :: l) : SL (A.popped k (4 * w + b / 8)) p w m { S with ch := upd S.ch k l } := by
  obtain ⟨p1, p2, p3, p4, p5⟩ := X.places
  have wb := X.wb
  have mb := X.mb
  have F := X.F.pop hu hk
  obtain ⟨k0, k1⟩ := X.F.rg k (by rw [hk]; simp)
  have hsub : ∀ j x, x ∈ upd S.ch k l j → x ∈ S.ch j := fun j x hx => by
    unfold upd at hx; split at hx
    · rename_i e; rw [e, hk]; exact List.mem_cons_of_mem _ hx
    · exact hx
  have ho : ∀ i, 4 * w + (m + 7) / 8 ≤ i → (A.popped k (4 * w + b / 8)).rawF i = A.rawF i := fun i hi => X.F.pop_other k0 k1 hi
  have us : (A.popped k (4 * w + b / 8)).uses = A.uses + 3 := rfl
  refine ⟨F, X.pl, X.wb, X.mb, by unfold Ar.popped; simp only [List.length_set]; exact X.rl, X.wl, X.fr, ?_, X.cvb, ?_, ?_, X.gnz, X.blk, X.dis, ?_, ?_, ?_, X.cr1, X.cr2, X.cnt, ?_, ?_⟩
  · rw [ho _ (by omega)]; exact X.cvr
  · intro c h0 h1 h2; rw [ho _ (by omega)]; exact X.gnr c h0 h1 h2
  · intro c; have := X.gnb c; rw [us]; show 0 ≤ S.gn c ∧ S.gn c ≤ _; omega
  · exact fun j x hx => X.chc j x (hsub j x hx)
  · intro h hh
    have hh' : A.stF h ≠ 0 := by rw [← stF_slots (A := A) (B := A.popped k (4 * w + b / 8)) rfl h]; exact hh
    obtain ⟨a1, a2⟩ := X.act h hh'
    exact ⟨a1, fun j hx => a2 j (hsub j _ hx)⟩
  · intro i hi
    obtain ⟨h, h1, h2, h3⟩ := X.bz i hi
    exact ⟨h, by rw [stF_slots (A := A) (B := A.popped k (4 * w + b / 8)) rfl h]; exact h1, h2, h3⟩
  · have := X.ncb; rw [us]; show 0 ≤ S.nc ∧ S.nc ≤ _; omega
  · have := X.cnb; rw [us]; show _ ≤ A.nL ∧ A.nL ≤ _ ∧ _ ≤ A.nR ∧ A.nR ≤ _; omega

/-- What a raw word turned leaves. -/
theorem rawF_setR {i j v : Int} (hi : A.rawOk i) : (A.setR i.toNat v).rawF j = if j = i then v else A.rawF j := by
  unfold Ar.rawOk at hi
  by_cases hj : A.rawOk j
  · have hj' : (A.setR i.toNat v).rawOk j := by unfold Ar.rawOk Ar.setR at *; simpa using hj
    rw [← getD_rawF hj', ← getD_rawF hj]
    unfold Ar.rawOk at hj
    show (A.raw.set i.toNat v).getD j.toNat 0 = _
    rw [List.getD_eq_getElem?_getD, List.getElem?_set]
    by_cases e : j = i
    · rw [if_pos e, if_pos (by rw [e]), if_pos (by omega)]; rfl
    · rw [if_neg e, if_neg (by omega), List.getD_eq_getElem?_getD]
  · have hj' : ¬ (A.setR i.toNat v).rawOk j := by unfold Ar.rawOk Ar.setR at *; simpa using hj
    have e : ¬ j = i := fun e => hj (e ▸ hi)
    rw [if_neg e]; unfold Ar.rawF; rw [if_neg hj, if_neg hj']

/-- New words are carved. -/
theorem SL.carve (X : SL A p w m S) (hu : A.uses ≤ 1000000000) {c : Int} (h0 : 0 ≤ c) (h1 : c < 4) (hf : S.cv + sizeF c ≤ m) :
    SL ((A.later 1).setR p.carved.toNat (S.cv + sizeF c)) p w m { S with cv := S.cv + sizeF c, cl := updI S.cl S.cv c } := by
  obtain ⟨p1, p2, p3, p4, p5⟩ := X.places
  have wb := X.wb
  have mb := X.mb
  have cvb := X.cvb
  have sz := sz_pos h0 h1
  have us := X.F.us
  have ok : (A.later 1).rawOk p.carved := ⟨by omega, X.rl⟩
  have hr : ∀ i, ((A.later 1).setR p.carved.toNat (S.cv + sizeF c)).rawF i = if i = p.carved then S.cv + sizeF c else A.rawF i := fun i => rawF_setR ok
  have hcl : S.cl S.cv = -1 := by
    by_cases h : S.cl S.cv = -1
    · exact h
    · have := X.blk _ h; have := sz_pos this.1 this.2.1; omega
  have hlt : ∀ b, S.cl b ≠ -1 → b < S.cv := fun b hb => by have := X.blk b hb; have := sz_pos this.1 this.2.1; omega
  have hst : ∀ h, ((A.later 1).setR p.carved.toNat (S.cv + sizeF c)).stF h = A.stF h := fun h => stF_slots rfl h
  refine ⟨X.F.congr (fun i i0 i1 => by rw [hr, if_neg (by omega)]) (by show (A.raw.set _ _).length = _; rw [List.length_set]) (by show A.uses ≤ A.uses + 1; omega), X.pl, X.wb, X.mb, ?_, X.wl, X.fr, ?_, ⟨by show 0 ≤ S.cv + _; omega, hf, by show (S.cv + _) % 8 = 0; omega⟩, ?_, ?_, ?_, ?_, ?_, ?_, ?_, ?_, ?_, ?_, X.cnt, ?_, ?_⟩
  · show p.carved < ((A.raw.set _ _).length : Int); rw [List.length_set]; exact X.rl
  · rw [hr, if_pos rfl]
  · intro b b0 b1 b2; rw [hr, if_neg (by omega)]; exact X.gnr b b0 b1 b2
  · intro b; have := X.gnb b; show 0 ≤ S.gn b ∧ S.gn b ≤ A.uses + 1; omega
  · intro b hb; exact X.gnz b (by have hb : S.cv + sizeF c ≤ b := hb; omega)
  · intro b hb
    show 0 ≤ updI S.cl S.cv c b ∧ updI S.cl S.cv c b < 4 ∧ 0 ≤ b ∧ b % 8 = 0 ∧ b + sizeF (updI S.cl S.cv c b) ≤ S.cv + sizeF c
    have hb : updI S.cl S.cv c b ≠ -1 := hb
    unfold updI at hb ⊢
    split
    · rename_i e; exact ⟨h0, h1, by omega, by omega, by omega⟩
    · rename_i e; rw [if_neg e] at hb; have := X.blk b hb; omega
  · intro b d hb hd hlt'
    have hb : updI S.cl S.cv c b ≠ -1 := hb
    have hd : updI S.cl S.cv c d ≠ -1 := hd
    show b + sizeF (updI S.cl S.cv c b) ≤ d
    unfold updI at hb hd ⊢
    split
    · rename_i e
      rw [if_neg (by omega)] at hd
      have := hlt d hd; omega
    · rename_i e
      rw [if_neg e] at hb
      by_cases e2 : d = S.cv
      · have := X.blk b hb; omega
      · rw [if_neg e2] at hd; exact X.dis b d hb hd hlt'
  · intro k b hb
    have hm := X.F.mem k b hb
    have hk : S.cl b ≠ -1 := by have := X.chc k b hb; have := X.F.rg k (by intro e; rw [e] at hb; cases hb); omega
    show updI S.cl S.cv c b = k % 4
    unfold updI; rw [if_neg (by have := hlt b hk; omega)]; exact X.chc k b hb
  · intro h hh
    rw [hst] at hh
    obtain ⟨a1, a2⟩ := X.act h hh
    refine ⟨?_, a2⟩
    show updI S.cl S.cv c (opB h) = opC h
    have : S.cl (opB h) ≠ -1 := by have := (opC_nat h).1; omega
    unfold updI; rw [if_neg (by have := hlt _ this; omega)]; exact a1
  · intro i hi
    obtain ⟨h, e1, e2, e3⟩ := X.bz i hi
    exact ⟨h, by rw [hst]; exact e1, e2, e3⟩
  · intro i hi; exact X.cr1 i (by have hi : S.cv + sizeF c ≤ (i : Int) := hi; omega)
  · intro b hb i i0 i1
    have hb : updI S.cl S.cv c b ≠ -1 := hb
    have i1 : (i : Int) < b + sizeF (updI S.cl S.cv c b) := i1
    show A.carved.getD i false = decide (1 ≤ S.gn b)
    unfold updI at hb i1
    by_cases e : b = S.cv
    · rw [X.cr1 i (by omega), X.gnz b (by omega)]; rfl
    · rw [if_neg e] at hb i1; exact X.cr2 b hb i i0 i1
  · have := X.ncb; show 0 ≤ S.nc ∧ S.nc ≤ 64 * (A.uses + 1 + 1); omega
  · have := X.cnb; show _ ≤ A.nL ∧ A.nL ≤ 64 * (A.uses + 1 + 1) ∧ _ ≤ A.nR ∧ A.nR ≤ 64 * (A.uses + 1 + 1); 
    show -(64 * (A.uses + 1 + 1)) ≤ A.nL ∧ A.nL ≤ 64 * (A.uses + 1 + 1) ∧ -(64 * (A.uses + 1 + 1)) ≤ A.nR ∧ A.nR ≤ 64 * (A.uses + 1 + 1)
    omega
end
end Go.Proofs.Ytfphgiipekkgdaa

set_option linter.unusedVariables false
set_option linter.unusedSimpArgs false
set_option maxRecDepth 20000
namespace Go.Proofs.Ytfphgiipekkgdaa
open Go Go.Fw

section
variable {A B : Ar} {p : Pl} {w m : Int} {S : Sg}

theorem newsN_all {l : List Bool} {b : Nat} (v : Bool) : ∀ (n : Nat), (∀ i, b ≤ i → i < b + n → l.getD i false = v) → newsN l b n = if v then 0 else n
  | 0, _ => by cases v <;> rfl
  | n + 1, h => by
    unfold newsN
    rw [newsN_all v n (fun i h0 h1 => h i h0 (by omega)), h (b + n) (by omega) (by omega)]
    cases v <;> simp

theorem setN_getD {l : List Bool} {b n i : Nat} {v : Bool} (hi : i < l.length) : (setN l b v n).getD i false = if b ≤ i ∧ i < b + n then v else l.getD i false := by
  rw [List.getD_eq_getElem?_getD, setN_get, List.getD_eq_getElem?_getD]
  by_cases h : b ≤ i ∧ i < b + n
  · rw [if_pos h, if_pos ⟨h.1, h.2, hi⟩]; rfl
  · rw [if_neg h, if_neg (fun h' => h ⟨h'.1, h'.2.1⟩)]
theorem setN_getD_out {l : List Bool} {b n i : Nat} {v : Bool} (hi : l.length ≤ i) : (setN l b v n).getD i false = false := by
  rw [List.getD_eq_getElem?_getD, List.getElem?_eq_none (by rw [setN_length]; exact hi)]; rfl

theorem bornF_counts (A : Ar) (hw : A.wf) (h : Int) : (A.bornF h).nC = w64 (A.nC + newsN A.carved (opB h).toNat (sizeF (opC h)).toNat) ∧
    (A.bornF h).nF = w64 (w64 (A.nF + newsN A.carved (opB h).toNat (sizeF (opC h)).toNat) - sizeF (opC h)) ∧ (A.bornF h).nL = w64 (A.nL + sizeF (opC h)) ∧ (A.bornF h).nR = A.nR := by
  obtain ⟨c1, c2⟩ := bornN_counts A hw.wC hw.wF (opB h).toNat (sizeF (opC h)).toNat
  obtain ⟨d1, d2⟩ := bornN_rest A (opB h).toNat (sizeF (opC h)).toNat
  unfold Ar.bornF
  generalize A.bornN (opB h).toNat (sizeF (opC h)).toNat = B at *
  rw [← c1, ← c2, ← d1, ← d2]
  exact ⟨rfl, rfl, rfl, rfl⟩

/-- One name of a base at most is a slot. -/
theorem stF_one {A : Ar} {h k : Int} (hs : A.stF h ≠ 0) (hb : opB k = opB h) (hn : k ≠ h) : A.stF k = 0 := by
  unfold Ar.stF at hs ⊢
  rw [hb]
  cases hg : alGet A.slots (opB h) with
  | none => rfl
  | some v =>
    obtain ⟨h', s⟩ := v
    rw [hg] at hs
    dsimp only at hs ⊢
    rw [if_neg]
    rintro ⟨_, e3⟩
    by_cases e4 : openOk h = true ∧ h' = h
    · exact hn (e3.symm.trans e4.2)
    · rw [if_neg e4] at hs; exact hs rfl

/-- Slots that go from one state to another. -/
theorem SL.like (X : SL A p w m S) (hr : B.raw = A.raw) (hu : B.uses = A.uses) (hw : B.words.length = A.words.length) (hs : ∀ h, B.stF h ≠ 0 ↔ A.stF h ≠ 0)
    (hb : B.busy = A.busy) (hc : B.carved = A.carved) (hg : B.gens = A.gens) (hf : B.fresh = A.fresh) (cnt : B.nC = S.nc ∧ B.nF = S.nc - B.nL - B.nR)
    (cnb : -(64 * (A.uses + 1)) ≤ B.nL ∧ B.nL ≤ 64 * (A.uses + 1) ∧ -(64 * (A.uses + 1)) ≤ B.nR ∧ B.nR ≤ 64 * (A.uses + 1)) : SL B p w m S := by
  refine ⟨X.F.congr (fun i _ _ => rawF_congr hr i) (by rw [hr]) (by omega), X.pl, X.wb, X.mb, by rw [hr]; exact X.rl, by rw [hw]; exact X.wl, by rw [hf]; exact X.fr, ?_, X.cvb, ?_, ?_, X.gnz, X.blk, X.dis, X.chc, ?_, ?_, ?_, ?_, cnt, ?_, by rw [hu]; exact cnb⟩
  · rw [rawF_congr hr]; exact X.cvr
  · intro b h0 h1 h2; rw [rawF_congr hr, hg]; exact X.gnr b h0 h1 h2
  · intro b; rw [hu]; exact X.gnb b
  · intro h hh; exact X.act h ((hs h).1 hh)
  · intro i hi; rw [hb] at hi; obtain ⟨h, h1, h2, h3⟩ := X.bz i hi; exact ⟨h, (hs h).2 h1, h2, h3⟩
  · intro i hi; rw [hc]; exact X.cr1 i hi
  · intro b hb i h0 h1; rw [hc]; exact X.cr2 b hb i h0 h1
  · rw [hu]; exact X.ncb

/-- A slot is born. -/
theorem SL.bear (X : SL A p w m S) (hwf : A.wf) (hu : A.uses ≤ 1000000000) {b c : Int} (hc : S.cl b = c) (hc1 : c ≠ -1) (hch : ∀ k, b ∉ S.ch k) (hact : ∀ h, A.stF h ≠ 0 → opB h ≠ b) :
    validN b (S.gn b + 1) c ∧ (opB (packF b (S.gn b + 1) c) = b ∧ opG (packF b (S.gn b + 1) c) = S.gn b + 1 ∧ opC (packF b (S.gn b + 1) c) = c ∧ openOk (packF b (S.gn b + 1) c) = true) ∧
    ((A.later 1).setR (p.gens + b / 8).toNat (S.gn b + 1)).bornOk (packF b (S.gn b + 1) c) ∧
    SL (((A.later 1).setR (p.gens + b / 8).toNat (S.gn b + 1)).bornF (packF b (S.gn b + 1) c)) p w m { S with gn := updI S.gn b (S.gn b + 1), nc := S.nc + (if S.gn b = 0 then sizeF c else 0) } ∧
    (∀ h, (((A.later 1).setR (p.gens + b / 8).toNat (S.gn b + 1)).bornF (packF b (S.gn b + 1) c)).stF h = if h = packF b (S.gn b + 1) c then 1 else A.stF h) ∧
    (((A.later 1).setR (p.gens + b / 8).toNat (S.gn b + 1)).bornF (packF b (S.gn b + 1) c)).nL = A.nL + sizeF c := by
  obtain ⟨p1, p2, p3, p4, p5⟩ := X.places
  have wb := X.wb
  have mb := X.mb
  have us := X.F.us
  have gb := X.gnb b
  have hb := X.blk b (by rw [hc]; exact hc1)
  rw [hc] at hb
  obtain ⟨b1, b2, b3, b4, b5⟩ := hb
  have sz := sz_pos b1 b2
  have cvb := X.cvb
  have hv : validN b (S.gn b + 1) c := ⟨b3, by omega, by omega, by omega, b1, b2⟩
  obtain ⟨o1, o2, o3, o4⟩ := opB_pack hv
  generalize hh : packF b (S.gn b + 1) c = h at *
  have ok : (A.later 1).rawOk (p.gens + b / 8) := ⟨by omega, by show _ < (A.raw.length : Int); have := X.rl; omega⟩
  have hr : ∀ i, ((A.later 1).setR (p.gens + b / 8).toNat (S.gn b + 1)).rawF i = if i = p.gens + b / 8 then S.gn b + 1 else A.rawF i := fun i => rawF_setR ok
  generalize hD : (A.later 1).setR (p.gens + b / 8).toNat (S.gn b + 1) = D at *
  have dst : ∀ k, D.stF k = A.stF k := fun k => by rw [← hD]; exact stF_slots rfl k
  have dwf : D.wf := by rw [← hD]; exact setR_wf (later_wf hwf 1) _ _
  have dbz : D.busy = A.busy := by rw [← hD]; rfl
  have dcr : D.carved = A.carved := by rw [← hD]; rfl
  have dge : D.gens = A.gens := by rw [← hD]; rfl
  have dwl : D.words.length = A.words.length := by rw [← hD]; rfl
  have dus : D.uses = A.uses + 1 := by rw [← hD]; rfl
  have dfr : D.fresh = A.fresh := by rw [← hD]; rfl
  have drl : D.raw.length = A.raw.length := by rw [← hD]; show (A.raw.set _ _).length = _; rw [List.length_set]
  have dnC : D.nC = A.nC ∧ D.nF = A.nF ∧ D.nL = A.nL ∧ D.nR = A.nR := by rw [← hD]; exact ⟨rfl, rfl, rfl, rfl⟩
  clear hD
  have hwl := X.wl
  have bl := hwf.busy
  have cl := hwf.carved
  -- no word of it is busy
  have free : ∀ i : Nat, b ≤ i → (i : Int) < b + sizeF c → A.busy.getD i false = false := fun i i0 i1 => by
    cases hbz : A.busy.getD i false with
    | false => rfl
    | true =>
      exfalso
      obtain ⟨k, k1, k2, k3⟩ := X.bz i hbz
      obtain ⟨a1, a2⟩ := X.act k k1
      have hne := hact k k1
      have c1 : S.cl (opB k) ≠ -1 := by rw [a1]; have := (opC_nat k).1; omega
      rcases Int.lt_trichotomy (opB k) b with e | e | e
      · have := X.dis (opB k) b c1 (by rw [hc]; exact hc1) e; rw [a1] at this; omega
      · exact hne e
      · have := X.dis b (opB k) (by rw [hc]; exact hc1) c1 e; rw [hc] at this; omega
  have gnr := X.gnr b b3 (by omega) b4
  have bok : D.bornOk h := by
    refine ⟨o4, by rw [o1, o3, dwl]; omega, ?_, fun i hi => ?_⟩
    · rw [o1, o2, dge]; omega
    · rw [dbz, o1]; rw [o3] at hi
      exact free _ (by omega) (by omega)
  have hst : ∀ k, (D.bornF h).stF k = if k = h then 1 else A.stF k := fun k => by
    rw [stF_bornF, o1]
    by_cases e : k = h
    · subst e; rw [if_pos o1, if_pos ⟨o4, rfl⟩, if_pos rfl]
    · rw [if_neg e]
      by_cases e1 : opB k = b
      · rw [if_pos e1, if_neg (fun x => e x.2.symm)]
        by_cases z : A.stF k = 0
        · exact z.symm
        · exact (hact k z e1).elim
      · rw [if_neg e1, dst]
  have hcr : ∀ i : Nat, b ≤ i → (i : Int) < b + sizeF c → A.carved.getD i false = decide (1 ≤ S.gn b) := fun i i0 i1 => X.cr2 b (by rw [hc]; exact hc1) i i0 (by rw [hc]; exact i1)
  have hnews : newsN D.carved (opB h).toNat (sizeF (opC h)).toNat = if S.gn b = 0 then (sizeF c).toNat else 0 := by
    rw [dcr, o1, o3, newsN_all (decide (1 ≤ S.gn b)) _ (fun i i0 i1 => hcr i (by omega) (by omega))]
    by_cases z : S.gn b = 0
    · rw [if_pos z, decide_eq_false (by omega)]; rfl
    · rw [if_neg z, decide_eq_true (by omega)]; rfl
  obtain ⟨n1, n2, n3, n4⟩ := bornF_counts D dwf h
  rw [hnews] at n1 n2
  rw [o3] at n2 n3
  obtain ⟨d1, d2, d3, d4⟩ := dnC
  have cnt := X.cnt
  have ncb := X.ncb
  have cnb := X.cnb
  have enw : (((if S.gn b = 0 then (sizeF c).toNat else 0 : Nat)) : Int) = if S.gn b = 0 then sizeF c else 0 := by split <;> omega
  rw [enw] at n1 n2
  have n1' : (D.bornF h).nC = S.nc + (if S.gn b = 0 then sizeF c else 0) := by rw [n1, d1, cnt.1, w64_in (by split <;> omega) (by split <;> omega)]
  have n3' : (D.bornF h).nL = A.nL + sizeF c := by rw [n3, d3, w64_in (by omega) (by omega)]
  have n4' : (D.bornF h).nR = A.nR := by rw [n4, d4]
  have n2' : (D.bornF h).nF = S.nc + (if S.gn b = 0 then sizeF c else 0) - (A.nL + sizeF c) - A.nR := by
    rw [n2, d2, cnt.2, w64_in (x := S.nc - A.nL - A.nR + _) (by split <;> omega) (by split <;> omega), w64_in (by split <;> omega) (by split <;> omega)]
    split <;> omega
  have bus : (D.bornF h).uses = A.uses + 1 := by rw [bornF_uses, dus]
  have braw : ∀ i, (D.bornF h).rawF i = D.rawF i := fun i => rawF_congr (bornF_raw D h) i
  refine ⟨hv, ⟨o1, o2, o3, o4⟩, bok, ?_, hst, n3'⟩
  refine ⟨X.F.congr (fun i i0 i1 => by rw [braw, hr, if_neg (by omega)]) (by rw [bornF_raw, drl]) (by rw [bus]; omega), X.pl, X.wb, X.mb, by rw [bornF_raw, drl]; exact X.rl, by rw [bornF_wl, dwl]; exact X.wl, by rw [bornF_fresh, dfr]; exact X.fr, ?_, X.cvb, ?_, ?_, ?_, X.blk, X.dis, X.chc, ?_, ?_, ?_, ?_, ?_, ?_, ?_⟩
  · rw [braw, hr, if_neg (by omega)]; exact X.cvr
  · intro d d0 d1' d2'
    rw [braw, hr, bornF_gens, dge, alGet_put, o1, o2]
    show (if _ then _ else _) = updI S.gn b (S.gn b + 1) d ∧ _ ≤ updI S.gn b (S.gn b + 1) d
    unfold updI
    by_cases e : d = b
    · subst e; rw [if_pos rfl, if_pos rfl, if_pos rfl]; exact ⟨rfl, Int.le_refl _⟩
    · rw [if_neg e, if_neg e, if_neg (by omega)]; exact X.gnr d d0 d1' d2'
  · intro d
    show 0 ≤ updI S.gn b (S.gn b + 1) d ∧ updI S.gn b (S.gn b + 1) d ≤ _
    have := X.gnb d
    rw [bus]; unfold updI; split <;> omega
  · intro d hd
    have hd : S.cv ≤ d := hd
    show updI S.gn b (S.gn b + 1) d = 0
    unfold updI; rw [if_neg (by omega)]; exact X.gnz d hd
  · intro k hk
    rw [hst] at hk
    by_cases e : k = h
    · subst e; rw [o1, o3]; exact ⟨hc, hch⟩
    · rw [if_neg e] at hk; exact X.act k hk
  · intro i hi
    rw [bornF_busy, dbz, o1, o3] at hi
    by_cases hil : i < A.busy.length
    · rw [setN_getD hil] at hi
      by_cases e : b.toNat ≤ i ∧ i < b.toNat + (sizeF c).toNat
      · exact ⟨h, by rw [hst, if_pos rfl]; decide, by rw [o1]; omega, by rw [o1, o3]; omega⟩
      · rw [if_neg e] at hi
        obtain ⟨k, k1, k2, k3⟩ := X.bz i hi
        refine ⟨k, ?_, k2, k3⟩
        rw [hst]; split
        · decide
        · exact k1
    · rw [setN_getD_out (by omega)] at hi; cases hi
  · intro i hi
    rw [bornF_carved, dcr, o1, o3]
    have hi : S.cv ≤ (i : Int) := hi
    by_cases hil : i < A.carved.length
    · rw [setN_getD hil, if_neg (by omega)]; exact X.cr1 i hi
    · exact setN_getD_out (by omega)
  · intro d hd i i0 i1
    have hd : S.cl d ≠ -1 := hd
    have i1 : (i : Int) < d + sizeF (S.cl d) := i1
    have hdb := X.blk d hd
    rw [bornF_carved, dcr, o1, o3, setN_getD (by omega)]
    show _ = decide (1 ≤ updI S.gn b (S.gn b + 1) d)
    unfold updI
    by_cases e : d = b
    · subst e
      rw [if_pos rfl, if_pos (by rw [hc] at i1; omega), decide_eq_true (by omega)]
    · rw [if_neg e, if_neg]
      · exact X.cr2 d hd i i0 i1
      · intro hx
        rcases Int.lt_or_gt_of_ne e with e2 | e2
        · have := X.dis d b hd (by rw [hc]; exact hc1) e2; omega
        · have := X.dis b d (by rw [hc]; exact hc1) hd e2; rw [hc] at this; omega
  · refine ⟨n1', ?_⟩
    rw [n2', n3', n4']
  · show 0 ≤ S.nc + _ ∧ S.nc + _ ≤ _
    rw [bus]; split <;> omega
  · rw [n3', n4', bus]; omega

/-- A slot is not wanted any more. -/
theorem SL.retire (X : SL A p w m S) (hu : A.uses ≤ 1000000000) {h : Int} (hs : A.stF h = 1) (cn : -(64 * (A.uses + 1)) ≤ A.nL - sizeF (opC h) ∧ A.nR + sizeF (opC h) ≤ 64 * (A.uses + 1)) :
    SL (A.retireF h) p w m S ∧ (∀ k, (A.retireF h).stF k = if k = h then 2 else A.stF k) ∧ (A.retireF h).nL = A.nL - sizeF (opC h) ∧ (A.retireF h).nR = A.nR + sizeF (opC h) := by
  have ho := stF_ok (A := A) (h := h) (by rw [hs]; decide)
  have us := X.F.us
  have cnb := X.cnb
  have ncb := X.ncb
  have cnt := X.cnt
  have sz := size_opC h
  have tn : A.turnN h 1 = sizeF (opC h) := by unfold Ar.turnN; rw [if_pos hs]
  have hst : ∀ k, (A.retireF h).stF k = if k = h then 2 else A.stF k := fun k => by
    rw [stF_retireF]
    by_cases e : k = h
    · subst e; rw [if_pos ⟨hs, rfl⟩, if_pos ⟨ho, rfl⟩, if_pos rfl]
    · rw [if_neg e]
      by_cases e1 : A.stF h = 1 ∧ opB k = opB h
      · rw [if_pos e1, if_neg (fun x => e x.2.symm)]
        exact (stF_one (by rw [hs]; decide) e1.2 e).symm
      · rw [if_neg e1]
  have parts : (A.retireF h).raw = A.raw ∧ (A.retireF h).words = A.words ∧ (A.retireF h).busy = A.busy ∧ (A.retireF h).carved = A.carved ∧ (A.retireF h).gens = A.gens ∧ (A.retireF h).fresh = A.fresh ∧ (A.retireF h).uses = A.uses ∧ (A.retireF h).nC = A.nC ∧ (A.retireF h).nF = A.nF := by
    unfold Ar.retireF Ar.turnF
    rw [if_pos hs]
    exact ⟨rfl, rfl, rfl, rfl, rfl, rfl, rfl, rfl, rfl⟩
  obtain ⟨q1, q2, q3, q4, q5, q6, q7, q8, q9⟩ := parts
  have nL : (A.retireF h).nL = A.nL - sizeF (opC h) := by
    have : (A.retireF h).nL = w64 (A.nL - A.turnN h 1) := by unfold Ar.retireF Ar.turnF; rw [if_pos hs]; rfl
    rw [this, tn, w64_in (by omega) (by omega)]
  have nR : (A.retireF h).nR = A.nR + sizeF (opC h) := by
    have : (A.retireF h).nR = w64 (A.nR + A.turnN h 1) := by unfold Ar.retireF Ar.turnF; rw [if_pos hs]; rfl
    rw [this, tn, w64_in (by omega) (by omega)]
  refine ⟨X.like q1 q7 (by rw [q2]) (fun k => ?_) q3 q4 q5 q6 ⟨by rw [q8]; exact cnt.1, by rw [q9, nL, nR]; omega⟩ (by rw [nL, nR]; omega), hst, nL, nR⟩
  rw [hst]
  by_cases e : k = h
  · rw [if_pos e, e, hs]; decide
  · rw [if_neg e]
end
end Go.Proofs.Ytfphgiipekkgdaa

set_option linter.unusedVariables false
set_option linter.unusedSimpArgs false
set_option maxRecDepth 20000
namespace Go.Proofs.Ytfphgiipekkgdaa
open Go Go.Fw

section
variable {A B : Ar} {p : Pl} {w m : Int} {S : Sg}

/-- Nobody has a slot any more. -/
theorem SL.die (X : SL A p w m S) (hwf : A.wf) (hu : A.uses ≤ 1000000000) {h : Int} (hs : A.stF h = 2) (cn : -(64 * (A.uses + 1)) ≤ A.nR - sizeF (opC h)) :
    SL (A.diedF h) p w m S ∧ (∀ k, (A.diedF h).stF k = if k = h then 0 else A.stF k) ∧ (A.diedF h).nL = A.nL ∧ (A.diedF h).nR = A.nR - sizeF (opC h) := by
  have ho := stF_ok (A := A) (h := h) (by rw [hs]; decide)
  have us := X.F.us
  have cnb := X.cnb
  have ncb := X.ncb
  have cnt := X.cnt
  have sz := size_opC h
  have hB := opB_nat h
  have tn : A.turnN h 2 = sizeF (opC h) := by unfold Ar.turnN; rw [if_pos hs]
  have hst : ∀ k, (A.diedF h).stF k = if k = h then 0 else A.stF k := fun k => by
    rw [stF_diedF]
    by_cases e : k = h
    · subst e; rw [if_pos ⟨hs, rfl⟩, if_pos ⟨ho, rfl⟩, if_pos rfl]
    · rw [if_neg e]
      by_cases e1 : A.stF h = 2 ∧ opB k = opB h
      · rw [if_pos e1, if_neg (fun x => e x.2.symm)]
        exact (stF_one (by rw [hs]; decide) e1.2 e).symm
      · rw [if_neg e1]
  have parts : (A.diedF h).raw = A.raw ∧ (A.diedF h).words = A.words ∧ (A.diedF h).busy = setN A.busy (opB h).toNat false (A.turnN h 2).toNat ∧ (A.diedF h).carved = A.carved ∧ (A.diedF h).gens = A.gens ∧ (A.diedF h).fresh = A.fresh ∧ (A.diedF h).uses = A.uses ∧ (A.diedF h).nC = A.nC ∧ (A.diedF h).nL = A.nL := by
    unfold Ar.diedF Ar.turnF
    rw [if_pos hs]
    exact ⟨rfl, rfl, rfl, rfl, rfl, rfl, rfl, rfl, rfl⟩
  obtain ⟨q1, q2, q3, q4, q5, q6, q7, q8, q9⟩ := parts
  have nR : (A.diedF h).nR = A.nR - sizeF (opC h) := by
    have : (A.diedF h).nR = w64 (A.nR - A.turnN h 2) := by unfold Ar.diedF Ar.turnF; rw [if_pos hs]; rfl
    rw [this, tn, w64_in (by omega) (by omega)]
  have nF : (A.diedF h).nF = A.nF + sizeF (opC h) := by
    have : (A.diedF h).nF = w64 (A.nF + A.turnN h 2) := by unfold Ar.diedF Ar.turnF; rw [if_pos hs]; rfl
    rw [this, tn, cnt.2, w64_in (by omega) (by omega)]
  rw [tn] at q3
  refine ⟨?_, hst, q9, nR⟩
  refine ⟨X.F.congr (fun i _ _ => rawF_congr q1 i) (by rw [q1]) (by omega), X.pl, X.wb, X.mb, by rw [q1]; exact X.rl, by rw [q2]; exact X.wl, by rw [q6]; exact X.fr, ?_, X.cvb, ?_, ?_, X.gnz, X.blk, X.dis, X.chc, ?_, ?_, ?_, ?_, ?_, ?_, ?_⟩
  · rw [rawF_congr q1]; exact X.cvr
  · intro b h0 h1 h2; rw [rawF_congr q1, q5]; exact X.gnr b h0 h1 h2
  · intro b; rw [q7]; exact X.gnb b
  · intro k hk
    rw [hst] at hk
    split at hk
    · exact (hk rfl).elim
    · exact X.act k hk
  · intro i hi
    rw [q3] at hi
    by_cases hil : i < A.busy.length
    · rw [setN_getD hil] at hi
      split at hi
      · cases hi
      · rename_i hne
        obtain ⟨k, k1, k2, k3⟩ := X.bz i hi
        refine ⟨k, ?_, k2, k3⟩
        rw [hst, if_neg]
        · exact k1
        · intro e; subst e; exact hne ⟨by omega, by omega⟩
    · rw [setN_getD_out (by omega)] at hi; cases hi
  · intro i hi; rw [q4]; exact X.cr1 i hi
  · intro b hb i h0 h1; rw [q4]; exact X.cr2 b hb i h0 h1
  · rw [q8, nF, q9, nR]; exact ⟨cnt.1, by omega⟩
  · rw [q7]; exact ncb
  · rw [q7, q9, nR]; omega

/-- A base that nobody has is put on a list. -/
theorem SL.push (X : SL A p w m S) (hu : A.uses ≤ 1000000000) {k b : Int} (k0 : 0 ≤ k) (k1 : k < 4 * w) (hc : S.cl b = k % 4) (hn : ∀ j, b ∉ S.ch j) (ha : ∀ h, A.stF h ≠ 0 → opB h ≠ b) :
    SL (A.pushed k (4 * w + b / 8) b) p w m { S with ch := upd S.ch k (b :: S.ch k) } := by
  obtain ⟨p1, p2, p3, p4, p5⟩ := X.places
  have wb := X.wb
  have mb := X.mb
  obtain ⟨b1, b2, b3, b4, b5⟩ := X.blk b (by omega)
  have cvb := X.cvb
  have sz := sz_pos b1 b2
  have hb : 0 ≤ b ∧ b % 8 = 0 ∧ b / 8 < (m + 7) / 8 := ⟨b3, b4, by omega⟩
  have F := X.F.push hu k0 k1 hb hn
  have ho : ∀ i, 4 * w + (m + 7) / 8 ≤ i → (A.pushed k (4 * w + b / 8) b).rawF i = A.rawF i := fun i hi => X.F.push_other k0 k1 hb hi
  have us : (A.pushed k (4 * w + b / 8) b).uses = A.uses + 3 := rfl
  have est : ∀ h, (A.pushed k (4 * w + b / 8) b).stF h = A.stF h := fun h => stF_slots (A := A) (B := A.pushed k (4 * w + b / 8) b) rfl h
  refine ⟨F, X.pl, X.wb, X.mb, by unfold Ar.pushed; simp only [List.length_set]; exact X.rl, X.wl, X.fr, ?_, X.cvb, ?_, ?_, X.gnz, X.blk, X.dis, ?_, ?_, ?_, X.cr1, X.cr2, X.cnt, ?_, ?_⟩
  · rw [ho _ (by omega)]; exact X.cvr
  · intro c h0 h1 h2; rw [ho _ (by omega)]; exact X.gnr c h0 h1 h2
  · intro c; have := X.gnb c; rw [us]; show 0 ≤ S.gn c ∧ S.gn c ≤ _; omega
  · intro j x hx
    have hx : x ∈ upd S.ch k (b :: S.ch k) j := hx
    unfold upd at hx
    split at hx
    · rename_i e
      rcases List.mem_cons.1 hx with rfl | hx
      · rw [e]; exact hc
      · rw [e]; exact X.chc k x hx
    · exact X.chc j x hx
  · intro h hh
    rw [est] at hh
    obtain ⟨a1, a2⟩ := X.act h hh
    refine ⟨a1, fun j hx => ?_⟩
    have hx : opB h ∈ upd S.ch k (b :: S.ch k) j := hx
    unfold upd at hx
    split at hx
    · rcases List.mem_cons.1 hx with e | hx
      · exact ha h hh e
      · exact a2 k hx
    · exact a2 j hx
  · intro i hi
    obtain ⟨h, h1, h2, h3⟩ := X.bz i hi
    exact ⟨h, by rw [est]; exact h1, h2, h3⟩
  · have := X.ncb; rw [us]; show 0 ≤ S.nc ∧ S.nc ≤ _; omega
  · have := X.cnb; rw [us]; show _ ≤ A.nL ∧ A.nL ≤ _ ∧ _ ≤ A.nR ∧ A.nR ≤ _; omega

theorem pushed_died (A : Ar) (k lk b h : Int) : (A.pushed k lk b).diedF h = (A.diedF h).pushed k lk b := by
  have e : (A.pushed k lk b).stF h = A.stF h := stF_slots (A := A) (B := A.pushed k lk b) rfl h
  unfold Ar.diedF Ar.turnF Ar.turnN
  rw [e]
  by_cases hs : A.stF h = 2
  · simp only [if_pos hs]; rfl
  · simp only [if_neg hs]; rfl

/-- A slot is given back. -/
theorem SL.give (X : SL A p w m S) (hwf : A.wf) (hu : A.uses ≤ 1000000000) {h who : Int} (hs : A.stF h = 2) (w0 : 0 ≤ who) (w1 : who < w) (cn : -(64 * (A.uses + 1)) ≤ A.nR - sizeF (opC h)) :
    SL ((A.pushed (4 * who + opC h) (4 * w + opB h / 8) (opB h)).diedF h) p w m { S with ch := upd S.ch (4 * who + opC h) (opB h :: S.ch (4 * who + opC h)) } ∧
    (∀ k, ((A.pushed (4 * who + opC h) (4 * w + opB h / 8) (opB h)).diedF h).stF k = if k = h then 0 else A.stF k) ∧
    ((A.pushed (4 * who + opC h) (4 * w + opB h / 8) (opB h)).diedF h).nL = A.nL ∧ ((A.pushed (4 * who + opC h) (4 * w + opB h / 8) (opB h)).diedF h).nR = A.nR - sizeF (opC h) := by
  obtain ⟨a1, a2⟩ := X.act h (by rw [hs]; decide)
  have hC := opC_nat h
  obtain ⟨Y, y1, y2, y3⟩ := X.die hwf hu hs cn
  rw [pushed_died]
  have us : (A.diedF h).uses = A.uses := by unfold Ar.diedF Ar.turnF; rw [if_pos hs]; rfl
  have Z := Y.push (k := 4 * who + opC h) (b := opB h) (by rw [us]; exact hu) (by omega) (by omega) (by rw [a1]; omega) a2 (fun k hk e => by
    rw [y1] at hk
    split at hk
    · exact hk rfl
    · rename_i hne
      exact hk (stF_one (by rw [hs]; decide) e hne))
  refine ⟨Z, fun k => ?_, y2, y3⟩
  rw [← y1 k]; exact stF_slots (A := A.diedF h) rfl k

/-- An arena that was made. -/
theorem SL.made {r : Nat} (hm : A.made r m.toNat false) (hr : (plOf w m).carved < r) (wb : 1 ≤ w ∧ w ≤ 100) (mb : 0 ≤ m ∧ m ≤ 60000) : SL A (plOf w m) w m ⟨fun _ => [], 0, fun _ => 0, fun _ => -1, 0⟩ := by
  have hz : ∀ i, A.rawF i = 0 := fun i => by
    unfold Ar.rawF; split
    · rw [hm.raw, List.getD_eq_getElem?_getD, List.getElem?_replicate]; split <;> rfl
    · rfl
  have hs : ∀ h, A.stF h = 0 := fun h => by unfold Ar.stF; rw [hm.slots]; rfl
  have hrl : (A.raw.length : Int) = r := by rw [hm.raw, List.length_replicate]
  have pc : (plOf w m).carved = 4 * w + 2 * ((m + 7) / 8) := rfl
  have hbz : ∀ i : Nat, A.busy.getD i false = false := fun i => by rw [hm.busy, List.getD_eq_getElem?_getD, List.getElem?_replicate]; split <;> rfl
  have hcr : ∀ i : Nat, A.carved.getD i false = false := fun i => by rw [hm.carved, List.getD_eq_getElem?_getD, List.getElem?_replicate]; split <;> rfl
  refine ⟨⟨rfl, rfl, by omega, by omega, by omega, by rw [hm.uses]; omega, fun k _ _ => by rw [hz, hm.uses]; decide, fun k _ _ => by rw [hz]; rfl, fun k b h => (by cases h), fun k => .nil, fun k j b h => (by cases h), fun k h => (h rfl).elim⟩, rfl, wb, mb, by rw [hrl]; exact hr, ?_, hm.fresh, hz _, ⟨Int.le_refl 0, mb.1, rfl⟩, fun b _ _ _ => ⟨hz _, ?_⟩, fun b => ?_, fun b _ => rfl, fun b h => (h rfl).elim, fun b c h => (h rfl).elim, fun k b h => (by cases h), fun h hh => (hh (hs h)).elim, fun i hi => ?_, fun i _ => hcr i, fun b h => (h rfl).elim, ?_, ?_, ?_⟩
  · rw [hm.words, List.length_replicate]; omega
  · rw [hm.gens]; exact Int.le_refl 0
  · rw [hm.uses]; exact ⟨Int.le_refl 0, Int.le_refl 0⟩
  · rw [hbz] at hi; cases hi
  · rw [hm.nC, hm.nF, hm.nL, hm.nR]; exact ⟨rfl, rfl⟩
  · rw [hm.uses]; decide
  · rw [hm.uses, hm.nL, hm.nR]; decide
end
end Go.Proofs.Ytfphgiipekkgdaa

set_option linter.unusedVariables false
set_option linter.unusedSimpArgs false
set_option maxRecDepth 20000
namespace Go.Proofs.Ytfphgiipekkgdaa
open Go Go.Fw

/-- What a machine of the slab leaves as it was; how many uses. -/
structure Off (c n : Int) (A A' : Ar) : Prop where
  wf : A'.wf
  al : Ar.Alike A A'
  wd : A'.words = A.words
  fa : A'.fault = A.fault
  fr : A'.fresh = A.fresh
  rl : A'.raw.length = A.raw.length
  rw : ∀ i, c < i → A'.rawF i = A.rawF i
  us : A'.uses = A.uses + n

section
variable {A B C : Ar} {p : Pl} {w m : Int} {S : Sg} {c : Int}

theorem Off.refl (h : A.wf) : Off c 0 A A := ⟨h, .refl A, rfl, rfl, rfl, rfl, fun _ _ => rfl, (Int.add_zero _).symm⟩
theorem Off.trans {k n : Int} (h : Off c k A B) (g : Off c n B C) : Off c (k + n) A C :=
  ⟨g.wf, h.al.trans g.al, g.wd.trans h.wd, g.fa.trans h.fa, g.fr.trans h.fr, g.rl.trans h.rl, fun i hi => (g.rw i hi).trans (h.rw i hi), by rw [g.us, h.us]; omega⟩
theorem Off.later (h : A.wf) (n : Int) : Off c n A (A.later n) := ⟨later_wf h n, later_alike A n, rfl, rfl, rfl, rfl, fun _ _ => rfl, rfl⟩
theorem Off.popped (h : A.wf) {k lk : Int} (o : A.rawOk k) (hk : k ≤ c) : Off c 3 A (A.popped k lk) :=
  ⟨popped_wf h k lk, popped_alike A k lk, rfl, rfl, rfl, by unfold Ar.popped; simp, fun i hi => by
    by_cases io : A.rawOk i
    · rw [rawF_popped o io, if_neg (by omega)]
    · unfold Ar.rawF; rw [if_neg io, if_neg (fun h => io (popped_ok.1 h))], rfl⟩
theorem Off.pushed (h : A.wf) {k lk b : Int} (o : A.rawOk k) (o2 : A.rawOk lk) (hk : k ≤ c) (hl : lk ≤ c) : Off c 3 A (A.pushed k lk b) :=
  ⟨pushed_wf h k lk b, pushed_alike A k lk b, rfl, rfl, rfl, by unfold Ar.pushed; simp, fun i hi => by
    by_cases io : A.rawOk i
    · rw [rawF_pushed o o2 io, if_neg (by omega), if_neg (by omega)]
    · unfold Ar.rawF; rw [if_neg io, if_neg (fun h => io (pushed_ok.1 h))], rfl⟩
theorem Off.setR (h : A.wf) {i v : Int} (o : A.rawOk i) (hi : i ≤ c) : Off c 0 A (A.setR i.toNat v) :=
  ⟨setR_wf h _ _, ⟨rfl, rfl, rfl, rfl, rfl, rfl, rfl⟩, rfl, rfl, rfl, by show (A.raw.set _ _).length = _; rw [List.length_set], fun j hj => by rw [rawF_setR o, if_neg (by omega)], (Int.add_zero _).symm⟩
theorem Off.bornF (h : A.wf) (hf : A.fresh = false) {k : Int} (hk : opB k + sizeF (opC k) ≤ A.words.length) : Off c 0 A (A.bornF k) :=
  ⟨bornF_wf h k hk, bornF_alike A k, by rw [bornF_words, hf]; rfl, bornF_fault A k, bornF_fresh A k, by rw [bornF_raw], fun i _ => rawF_congr (bornF_raw A k) i, by rw [bornF_uses, Int.add_zero]⟩
theorem Off.diedF (h : A.wf) (k : Int) : Off c 0 A (A.diedF k) := by
  have parts : (A.diedF k).raw = A.raw ∧ (A.diedF k).words = A.words ∧ (A.diedF k).fault = A.fault ∧ (A.diedF k).fresh = A.fresh ∧ (A.diedF k).uses = A.uses := by
    unfold Ar.diedF Ar.turnF; split <;> exact ⟨rfl, rfl, rfl, rfl, rfl⟩
  obtain ⟨q1, q2, q3, q4, q5⟩ := parts
  exact ⟨diedF_wf h k, diedF_alike A k, q2, q3, q4, by rw [q1], fun i _ => rawF_congr q1 i, by rw [q5, Int.add_zero]⟩
theorem Off.retireF (h : A.wf) (k : Int) : Off c 0 A (A.retireF k) := by
  have parts : (A.retireF k).raw = A.raw ∧ (A.retireF k).words = A.words ∧ (A.retireF k).fault = A.fault ∧ (A.retireF k).fresh = A.fresh ∧ (A.retireF k).uses = A.uses := by
    unfold Ar.retireF Ar.turnF; split <;> exact ⟨rfl, rfl, rfl, rfl, rfl⟩
  obtain ⟨q1, q2, q3, q4, q5⟩ := parts
  exact ⟨retireF_wf h k, retireF_alike A k, q2, q3, q4, by rw [q1], fun i _ => rawF_congr q1 i, by rw [q5, Int.add_zero]⟩

/-! ### Steps that do not end -/

inductive Mch.Path {M J : Type} (X : Mch M J) : Nat → M → Ar → M → Ar → Prop
  | nil {x : M} {D : Ar} : Path X 0 x D x D
  | cons {n : Nat} {x : M} {D : Ar} {x1 : M} {D1 : Ar} {x' : M} {D' : Ar} : X.inv x D → X.step x D = (x1, D1) → D1.uses ≤ w64 (D.uses + 1) → X.fin x1 = false → Path X n x1 D1 x' D' → Path X (n + 1) x D x' D'

theorem Mch.Path.trans {M J : Type} {X : Mch M J} {k n : Nat} {m m1 m2 : M} {A A1 A2 : Ar} (h : X.Path k m A m1 A1) (g : X.Path n m1 A1 m2 A2) : X.Path (k + n) m A m2 A2 := by
  induction h with
  | nil => rw [Nat.zero_add]; exact g
  | @cons k m A m1 A1 m' A' h1 h2 h3 h4 _ ih =>
    have := ih g
    rw [show k + 1 + n = k + n + 1 by omega]
    exact .cons h1 h2 h3 h4 this
theorem Mch.Path.run {M J : Type} {X : Mch M J} {k n : Nat} {m m1 m2 : M} {A A1 A2 : Ar} (h : X.Path k m A m1 A1) (g : X.Runs n m1 A1 m2 A2) : X.Runs (k + n) m A m2 A2 := by
  induction h with
  | nil => rw [Nat.zero_add]; exact g
  | @cons k m A m1 A1 m' A' h1 h2 h3 h4 _ ih =>
    have := ih g
    rw [show k + 1 + n = k + n + 1 by omega]
    refine .more h1 (by rw [h2]; exact h3) (by rw [h2]; exact h4) ?_
    rw [h2]; exact this
theorem Mch.Runs.last {M J : Type} {X : Mch M J} {m m1 : M} {A A1 : Ar} (h1 : X.inv m A) (h2 : X.step m A = (m1, A1)) (h3 : A1.uses ≤ w64 (A.uses + 1)) (h4 : X.fin m1 = true) : X.Runs 1 m A m1 A1 := by
  have := Mch.Runs.one (X := X) h1 (by rw [h2]; exact h3) (by rw [h2]; exact h4)
  rw [h2] at this; exact this

/-! ### An alloc, step by step -/

theorem headF_eq {p : Pl} {w c : Int} (hp : p.heads = 0) (w0 : 0 ≤ w ∧ w ≤ 1000) (c0 : 0 ≤ c ∧ c < 4) : headF p w c = 4 * w + c := by
  unfold headF; rw [hp, Int.zero_add, w64_in (x := 4 * w) (by omega) (by omega), w64_in (x := 4 * w) (by omega) (by omega), w64_in (by omega) (by omega)]

/-- An alloc that has asked j lists. -/
def askAl (p : Pl) (w who c j : Int) : Al := ⟨p, who, c, j, 0, 0, 0, newPo p ((who + j) % w) c⟩
def bearAl (p : Pl) (who c j b : Int) (po : Po) : Al := ⟨p, who, c, j, 3, b, 0, po⟩

theorem ask_none (X : SL A p w m S) (hu : A.uses ≤ 1000000000) {who c j : Int} (wh : 0 ≤ who ∧ who < w) (hc : 0 ≤ c ∧ c < 4) (hj : 0 ≤ j ∧ j < w) (he : S.ch (4 * ((who + j) % w) + c) = []) :
    ∃ y, y.at' = 3 ∧ (if j + 1 < w then mAl.Path 1 (askAl p w who c j) A (askAl p w who c (j + 1)) (A.later 1) else mAl.Path 1 (askAl p w who c j) A ⟨p, who, c, j + 1, 1, 0, 0, y⟩ (A.later 1)) := by
  obtain ⟨p1, p2, p3, p4, p5⟩ := X.places
  have wb := X.wb
  have us := X.F.us
  have q0 := Int.emod_nonneg (who + j) (b := w) (by omega)
  have q1 := Int.emod_lt_of_pos (who + j) (b := w) (by omega)
  have hh := headF_eq (p := p) (w := (who + j) % w) (c := c) p1 ⟨q0, by omega⟩ hc
  have ok : A.rawOk (4 * ((who + j) % w) + c) := X.F.hdOk (by omega) (by omega)
  generalize hk : 4 * ((who + j) % w) + c = k at *
  have np : newPo p ((who + j) % w) c = ⟨p, k, 0, 0, 0, 0, false⟩ := by unfold newPo; rw [hh]
  have e1 := Po.s0 (A := A) (x := ⟨p, k, 0, 0, 0, 0, false⟩) rfl ok
  have fz : A.rawF k % 131072 = 0 := X.F.first_nil (by omega) (by omega) he
  simp only [if_pos fz] at e1
  have b1 : (Po.mk p k 0 0 0 0 false).stepB A = true := by rw [← Po.fin, (Prod.mk.inj e1).1]; rfl
  have ej : w64 (j + 1) = j + 1 := w64_in (by omega) (by omega)
  have hx : imax p.work 1 = w := by rw [p5]; unfold imax; rw [if_neg (by omega)]
  have et : A.tick = A.later 1 := tick_uses us (by omega)
  have u1 : (A.later 1).uses ≤ w64 (A.uses + 1) := by show A.uses + 1 ≤ _; rw [w64_in (by omega) (by omega)]; exact Int.le_refl _
  have iv : 0 ≤ j ∧ j ≤ 1000000 := ⟨hj.1, by omega⟩
  have s1 : Al.step (askAl p w who c j) A = (Al.popd ⟨p, who, c, j, 0, 0, 0, ⟨p, k, A.rawF k, 3, 0, 0, false⟩⟩, A.later 1) := by
    unfold Al.step askAl
    rw [np]
    simp only [b1, if_true]
    rw [(Prod.mk.inj e1).1, (Prod.mk.inj e1).2, et]
  refine ⟨⟨p, k, A.rawF k, 3, 0, 0, false⟩, rfl, ?_⟩
  by_cases hl : j + 1 < w
  · rw [if_pos hl]
    refine .cons iv (x1 := askAl p w who c (j + 1)) ?_ u1 rfl .nil
    refine Eq.trans s1 ?_
    unfold Al.popd
    have n1 : ¬ j + 1 ≥ w := by omega
    simp only [Bool.false_eq_true, if_false, ej, hx, if_neg n1]
    show (Al.mk p who c (j + 1) 0 0 0 (newPo p (Int.tmod (w64 (who + (j + 1))) p.work) c), _) = (Al.mk p who c (j + 1) 0 0 0 (newPo p ((who + (j + 1)) % w) c), _)
    rw [w64_in (x := who + (j + 1)) (by omega) (by omega), p5, Int.tmod_eq_emod_of_nonneg (by omega)]
  · rw [if_neg hl]
    refine .cons iv ?_ u1 rfl .nil
    refine Eq.trans s1 ?_
    unfold Al.popd
    have n1 : j + 1 ≥ w := by omega
    simp only [Bool.false_eq_true, if_false, ej, hx, if_pos n1]

theorem ask_some (X : SL A p w m S) (hwf : A.wf) (hu : A.uses ≤ 1000000000) {who c j b : Int} {l : List Int} (wh : 0 ≤ who ∧ who < w) (hc : 0 ≤ c ∧ c < 4) (hj : 0 ≤ j ∧ j < w) (he : S.ch (4 * ((who + j) % w) + c) = b :: l) :
    ∃ y, mAl.Path 3 (askAl p w who c j) A (bearAl p who c (j + 1) b y) (A.popped (4 * ((who + j) % w) + c) (4 * w + b / 8)) := by
  obtain ⟨p1, p2, p3, p4, p5⟩ := X.places
  have wb := X.wb
  have mb := X.mb
  have us := X.F.us
  have q0 := Int.emod_nonneg (who + j) (b := w) (by omega)
  have q1 := Int.emod_lt_of_pos (who + j) (b := w) (by omega)
  have hh := headF_eq (p := p) (w := (who + j) % w) (c := c) p1 ⟨q0, by omega⟩ hc
  generalize hk : 4 * ((who + j) % w) + c = k at *
  have o1 : A.rawOk k := X.F.hdOk (by omega) (by omega)
  have hm := X.F.mem k b (by rw [he]; simp)
  have o2 := X.F.lkOk hm.1 hm.2.2
  have hf := X.F.first_cons (k := k) (by omega) (by omega) he
  have nb := X.F.nb
  have el : w64 (w64 (p.links + A.rawF k % 131072) - 1) = 4 * w + b / 8 := by rw [hf, p2, w64_in (x := 4 * w + (b / 8 + 1)) (by omega) (by omega), w64_in (by omega) (by omega)]; omega
  have eb : w64 (w64 (A.rawF k % 131072 - 1) * 8) = b := by rw [hf, w64_in (x := b / 8 + 1 - 1) (by omega) (by omega), w64_in (by omega) (by omega)]; omega
  have t1 : w64 (A.uses + 1) = A.uses + 1 := w64_in (by omega) (by omega)
  have t2 : w64 (A.uses + 1 + 1) = A.uses + 1 + 1 := w64_in (by omega) (by omega)
  have t3 : w64 (A.uses + 1 + 1 + 1) = A.uses + 1 + 1 + 1 := w64_in (by omega) (by omega)
  have ef : A.tick.tick.tick.setR k.toNat (nextF (A.rawF k) (A.rawF (4 * w + b / 8))) = A.popped k (4 * w + b / 8) := by
    unfold Ar.popped Ar.setR Ar.tick
    simp only [t1, t2, t3, Ar.mk.injEq, true_and]
    omega
  have e1 := Po.s0 (A := A) (x := ⟨p, k, 0, 0, 0, 0, false⟩) rfl o1
  have n0 : ¬ A.rawF k % 131072 = 0 := by omega
  simp only [if_neg n0] at e1
  have e2 := Po.s1 (A := A.tick) (x := ⟨p, k, A.rawF k, 1, 0, 0, false⟩) rfl el o2
  have e3 := Po.s2y (A := A.tick.tick) (x := ⟨p, k, A.rawF k, 2, A.rawF (4 * w + b / 8), 0, false⟩) rfl o1 rfl
  have b1 : (Po.mk p k 0 0 0 0 false).stepB A = false := by rw [← Po.fin, (Prod.mk.inj e1).1]; rfl
  have b2 : (Po.mk p k (A.rawF k) 1 0 0 false).stepB A.tick = false := by rw [← Po.fin, (Prod.mk.inj e2).1]; rfl
  have b3 : (Po.mk p k (A.rawF k) 2 (A.rawF (4 * w + b / 8)) 0 false).stepB A.tick.tick = true := by rw [← Po.fin, (Prod.mk.inj e3).1]; rfl
  have np : newPo p ((who + j) % w) c = ⟨p, k, 0, 0, 0, 0, false⟩ := by unfold newPo; rw [hh]
  have ej : w64 (j + 1) = j + 1 := w64_in (by omega) (by omega)
  have s1 : Al.step (askAl p w who c j) A = (⟨p, who, c, j, 0, 0, 0, ⟨p, k, A.rawF k, 1, 0, 0, false⟩⟩, A.tick) := by
    unfold Al.step askAl
    rw [np]
    simp only [b1, if_true, if_false, Bool.false_eq_true]
    rw [(Prod.mk.inj e1).1, (Prod.mk.inj e1).2]
  have s2 : Al.step ⟨p, who, c, j, 0, 0, 0, ⟨p, k, A.rawF k, 1, 0, 0, false⟩⟩ A.tick = (⟨p, who, c, j, 0, 0, 0, ⟨p, k, A.rawF k, 2, A.rawF (4 * w + b / 8), 0, false⟩⟩, A.tick.tick) := by
    unfold Al.step
    simp only [b2, if_true, if_false, Bool.false_eq_true]
    rw [(Prod.mk.inj e2).1, (Prod.mk.inj e2).2]; rfl
  have s3 : Al.step ⟨p, who, c, j, 0, 0, 0, ⟨p, k, A.rawF k, 2, A.rawF (4 * w + b / 8), 0, false⟩⟩ A.tick.tick = (bearAl p who c (j + 1) b ⟨p, k, A.rawF k, 3, A.rawF (4 * w + b / 8), b, true⟩, A.popped k (4 * w + b / 8)) := by
    unfold Al.step
    simp only [b3, if_true]
    rw [(Prod.mk.inj e3).1, (Prod.mk.inj e3).2]
    unfold Al.popd
    simp only [if_true]
    rw [ef, ej, eb]; rfl
  have iv : 0 ≤ j ∧ j ≤ 1000000 := ⟨hj.1, by omega⟩
  refine ⟨⟨p, k, A.rawF k, 3, A.rawF (4 * w + b / 8), b, true⟩, .cons iv s1 (Int.le_refl _) rfl (.cons iv s2 (Int.le_refl _) rfl (.cons iv s3 ?_ rfl .nil))⟩
  show A.uses + 3 ≤ w64 (w64 (w64 (A.uses + 1) + 1) + 1)
  rw [t1, t2, t3]; omega
end
end Go.Proofs.Ytfphgiipekkgdaa

set_option linter.unusedVariables false
set_option linter.unusedSimpArgs false
set_option maxRecDepth 20000
namespace Go.Proofs.Ytfphgiipekkgdaa
open Go Go.Fw

section
variable {A B C : Ar} {p : Pl} {w m : Int} {S : Sg} {c : Int}

theorem carve_no (X : SL A p w m S) (hu : A.uses ≤ 1000000000) {who j : Int} {y : Po} (hc : 0 ≤ c ∧ c < 4) (hj : 0 ≤ j ∧ j ≤ 1000000) (hf : ¬ S.cv + sizeF c ≤ m) :
    mAl.Runs 1 ⟨p, who, c, j, 1, 0, 0, y⟩ A ⟨p, who, c, j, 4, S.cv, 0, y⟩ (A.later 1) := by
  obtain ⟨p1, p2, p3, p4, p5⟩ := X.places
  have us := X.F.us
  have mb := X.mb
  have wb := X.wb
  have sz := sz_pos hc.1 hc.2
  have ok : A.rawOk p.carved := ⟨by omega, X.rl⟩
  have gt : A.rawF p.carved > w64 (A.words.length - sizeF c) := by rw [X.cvr, X.wl, w64_in (by omega) (by omega)]; omega
  refine Mch.Runs.last (X := mAl) (m := ⟨p, who, c, j, 1, 0, 0, y⟩) (A := A) (A1 := A.later 1) (m1 := ⟨p, who, c, j, 4, S.cv, 0, y⟩) ⟨hj.1, hj.2⟩ ?_ (by show A.uses + 1 ≤ _; rw [w64_in (by omega) (by omega)]; exact Int.le_refl _) rfl
  rw [show mAl.step = Al.step from rfl]
  unfold Al.step
  have n0 : ¬ (1 : Int) = 0 := by decide
  simp only [if_neg n0, if_true, if_pos gt]
  rw [touchR_yes ok, tick_uses us (by omega), X.cvr]

theorem carve_yes (X : SL A p w m S) (hu : A.uses ≤ 1000000000) {who j : Int} {y : Po} (hc : 0 ≤ c ∧ c < 4) (hj : 0 ≤ j ∧ j ≤ 1000000) (hf : S.cv + sizeF c ≤ m) :
    mAl.Path 2 ⟨p, who, c, j, 1, 0, 0, y⟩ A ⟨p, who, c, j, 3, S.cv, 0, y⟩ (((A.later 1).later 1).setR p.carved.toNat (S.cv + sizeF c)) := by
  obtain ⟨p1, p2, p3, p4, p5⟩ := X.places
  have us := X.F.us
  have mb := X.mb
  have wb := X.wb
  have cvb := X.cvb
  have sz := sz_pos hc.1 hc.2
  have ok : A.rawOk p.carved := ⟨by omega, X.rl⟩
  have ok' : (A.later 1).rawOk p.carved := ok
  have ng : ¬ A.rawF p.carved > w64 (A.words.length - sizeF c) := by rw [X.cvr, X.wl, w64_in (by omega) (by omega)]; omega
  have t1 : A.tick = A.later 1 := tick_uses us (by omega)
  have t2 : (A.later 1).tick = (A.later 1).later 1 := tick_uses (by show 0 ≤ A.uses + 1; omega) (by show A.uses + 1 ≤ _; omega)
  have s1 : Al.step ⟨p, who, c, j, 1, 0, 0, y⟩ A = (⟨p, who, c, j, 2, S.cv, 0, y⟩, A.later 1) := by
    unfold Al.step
    have n0 : ¬ (1 : Int) = 0 := by decide
    simp only [if_neg n0, if_true, if_neg ng]
    rw [touchR_yes ok, t1, X.cvr]
  have hraw : (A.later 1).raw.getD p.carved.toNat 0 = S.cv := by rw [getD_rawF ok']; exact X.cvr
  have sb : (A.later 1).swapRb p.carved S.cv = true := decide_eq_true ⟨ok', hraw⟩
  have s2 : Al.step ⟨p, who, c, j, 2, S.cv, 0, y⟩ (A.later 1) = (⟨p, who, c, j, 3, S.cv, 0, y⟩, ((A.later 1).later 1).setR p.carved.toNat (S.cv + sizeF c)) := by
    unfold Al.step
    have n0 : ¬ (2 : Int) = 0 := by decide
    have n1 : ¬ (2 : Int) = 1 := by decide
    simp only [if_neg n0, if_neg n1, if_true, sb]
    unfold Ar.swapR
    rw [if_pos ok', if_pos hraw, t2, w64_in (by omega) (by omega)]
  refine .cons ⟨hj.1, hj.2⟩ s1 (by show A.uses + 1 ≤ _; rw [w64_in (by omega) (by omega)]; exact Int.le_refl _) rfl (.cons ⟨hj.1, hj.2⟩ s2 ?_ rfl .nil)
  show A.uses + 1 + 1 ≤ w64 (A.uses + 1 + 1)
  rw [w64_in (by omega) (by omega)]; exact Int.le_refl _

theorem bear_last (X : SL A p w m S) (hu : A.uses ≤ 1000000000) {who j b : Int} {y : Po} (hj : 0 ≤ j ∧ j ≤ 1000000) (hc : S.cl b = c) (hc1 : c ≠ -1) (hb : ((A.later 1).setR (p.gens + b / 8).toNat (S.gn b + 1)).bornOk (packF b (S.gn b + 1) c)) :
    mAl.Runs 1 ⟨p, who, c, j, 3, b, 0, y⟩ A ⟨p, who, c, j, 4, b, packF b (S.gn b + 1) c, y⟩ (((A.later 1).setR (p.gens + b / 8).toNat (S.gn b + 1)).bornF (packF b (S.gn b + 1) c)) := by
  obtain ⟨p1, p2, p3, p4, p5⟩ := X.places
  have us := X.F.us
  have mb := X.mb
  have wb := X.wb
  have cvb := X.cvb
  have gb := X.gnb b
  obtain ⟨b1, b2, b3, b4, b5⟩ := X.blk b (by rw [hc]; exact hc1)
  have sz := sz_pos b1 b2
  have ok : A.rawOk (p.gens + b / 8) := ⟨by omega, by have := X.rl; omega⟩
  have ei : w64 (p.gens + w64 (Int.tdiv b 8)) = p.gens + b / 8 := by rw [Int.tdiv_eq_ediv_of_nonneg b3, w64_in (x := b / 8) (by omega) (by omega), w64_in (by omega) (by omega)]
  have eg : A.rawF (p.gens + b / 8) = S.gn b := (X.gnr b b3 (by omega) b4).1
  refine Mch.Runs.last (X := mAl) (m := ⟨p, who, c, j, 3, b, 0, y⟩) (A := A) (A1 := ((A.later 1).setR (p.gens + b / 8).toNat (S.gn b + 1)).bornF (packF b (S.gn b + 1) c)) (m1 := ⟨p, who, c, j, 4, b, packF b (S.gn b + 1) c, y⟩) ⟨hj.1, hj.2⟩ ?_ ?_ rfl
  · rw [show mAl.step = Al.step from rfl]
    unfold Al.step
    have n0 : ¬ (3 : Int) = 0 := by decide
    have n1 : ¬ (3 : Int) = 1 := by decide
    have n2 : ¬ (3 : Int) = 2 := by decide
    simp only [if_neg n0, if_neg n1, if_neg n2, if_true, ei, eg]
    rw [w64_in (x := S.gn b + 1) (by omega) (by omega)]
    unfold Ar.storeR
    rw [if_pos ok, tick_uses us (by omega)]
    unfold Ar.bornX
    rw [if_pos hb]
  · rw [bornF_uses]
    show A.uses + 1 ≤ _
    rw [w64_in (by omega) (by omega)]; exact Int.le_refl _

/-! ### An alloc alone, to its end -/

/-- The first list that has something. -/
def Sg.ask (S : Sg) (w who c : Int) : Nat → Int → Option Int
  | 0, _ => none
  | f + 1, j => if S.ch (4 * ((who + j) % w) + c) = [] then S.ask w who c f (j + 1) else some (4 * ((who + j) % w) + c)

/-- What a slab gives. -/
inductive Gives (S : Sg) (w m who c : Int) : Sg → Int → Prop
  | list {k b : Int} {l : List Int} : S.ask w who c w.toNat 0 = some k → S.ch k = b :: l → 0 ≤ k → k < 4 * w → k % 4 = c →
      Gives S w m who c { S with ch := upd S.ch k l, gn := updI S.gn b (S.gn b + 1), nc := S.nc + (if S.gn b = 0 then sizeF c else 0) } (packF b (S.gn b + 1) c)
  | carve : S.ask w who c w.toNat 0 = none → S.cv + sizeF c ≤ m →
      Gives S w m who c { S with cv := S.cv + sizeF c, cl := updI S.cl S.cv c, gn := updI S.gn S.cv 1, nc := S.nc + sizeF c } (packF S.cv 1 c)
  | none : S.ask w who c w.toNat 0 = none → ¬ S.cv + sizeF c ≤ m → Gives S w m who c S 0

structure Alloced (A : Ar) (p : Pl) (w m : Int) (S : Sg) (who c : Int) (n : Nat) (x' : Al) (A' : Ar) (S' : Sg) : Prop where
  run : mAl.Runs n (newAl p who c) A x' A'
  gives : Gives S w m who c S' x'.h
  off : Off p.carved n A A'
  sl : SL A' p w m S'
  st : ∀ k, A'.stF k = if x'.h ≠ 0 ∧ k = x'.h then 1 else A.stF k
  nL : A'.nL = A.nL + (if x'.h ≠ 0 then sizeF c else 0)
  nR : A'.nR = A.nR
  nn : (n : Int) ≤ w + 5
  hd : x'.h ≠ 0 → opC x'.h = c ∧ openOk x'.h = true ∧ A.stF x'.h = 0

theorem ask_path (X : SL A p w m S) (hwf : A.wf) (hu : A.uses ≤ 1000000) {who : Int} (wh : 0 ≤ who ∧ who < w) (hc : 0 ≤ c ∧ c < 4) : ∀ (f : Nat) (j : Int), 0 ≤ j → j + f = w → ∀ (D : Ar), D = A.later j → 1 ≤ f →
    (∃ y, S.ask w who c f j = none ∧ mAl.Path f (askAl p w who c j) D ⟨p, who, c, w, 1, 0, 0, y⟩ (A.later w)) ∨
    (∃ k b l y, ∃ i : Nat, S.ask w who c f j = some k ∧ S.ch k = b :: l ∧ 0 ≤ k ∧ k < 4 * w ∧ k % 4 = c ∧ j ≤ i ∧ (i : Int) < w ∧ ∃ n : Nat, (n : Int) = i - j + 3 ∧ mAl.Path n (askAl p w who c j) D (bearAl p who c (i + 1) b y) ((A.later i).popped k (4 * w + b / 8)))
  | 0, j, h0, h1, D, hD, hf => by omega
  | f + 1, j, h0, h1, D, hD, hf => by
    have wb := X.wb
    have q0 := Int.emod_nonneg (who + j) (b := w) (by omega)
    have q1 := Int.emod_lt_of_pos (who + j) (b := w) (by omega)
    have Y : SL D p w m S := by rw [hD]; exact X.later h0
    have du : D.uses ≤ 1000000000 := by rw [hD]; show A.uses + j ≤ _; omega
    have dwf : D.wf := by rw [hD]; exact later_wf hwf j
    unfold Sg.ask
    by_cases he : S.ch (4 * ((who + j) % w) + c) = []
    · rw [if_pos he]
      obtain ⟨y, y3, hp⟩ := ask_none Y du wh hc ⟨h0, by omega⟩ he
      have e1 : D.later 1 = A.later (j + 1) := by rw [hD]; unfold Ar.later; simp only [Ar.mk.injEq, true_and]; omega
      by_cases hl : j + 1 < w
      · rw [if_pos hl] at hp
        rcases ask_path X hwf hu wh hc f (j + 1) (by omega) (by omega) (D.later 1) e1 (by omega) with ⟨y2, a1, a2⟩ | ⟨k, b, l, y2, i, a1, a2, a3, a4, a5, a6, a7, n, a8, a9⟩
        · exact .inl ⟨y2, a1, by have := hp.trans a2; rw [Nat.add_comm] at this; exact this⟩
        · exact .inr ⟨k, b, l, y2, i, a1, a2, a3, a4, a5, by omega, a7, 1 + n, by omega, hp.trans a9⟩
      · rw [if_neg hl] at hp
        have f0 : f = 0 := by omega
        subst f0
        have ew : j + 1 = w := by omega
        refine .inl ⟨y, rfl, ?_⟩
        rw [← ew, ← e1]; rw [← ew] at hp; exact hp
    · rw [if_neg he]
      obtain ⟨b, l, hbl⟩ := List.exists_cons_of_ne_nil he
      obtain ⟨y, hp⟩ := ask_some Y dwf du wh hc ⟨h0, by omega⟩ hbl
      refine .inr ⟨_, b, l, y, j.toNat, rfl, hbl, by omega, by omega, by omega, by omega, by omega, 3, by omega, ?_⟩
      have ej : ((j.toNat : Nat) : Int) = j := by omega
      rw [ej, ← hD]; exact hp

theorem later0 (A : Ar) : A.later 0 = A := by unfold Ar.later; rw [Int.add_zero]

theorem alloc_solo (X : SL A p w m S) (hwf : A.wf) (hu : A.uses ≤ 1000000) {who : Int} (wh : 0 ≤ who ∧ who < w) (hc : 0 ≤ c ∧ c < 4) : ∃ n x' A' S', Alloced A p w m S who c n x' A' S' := by
  obtain ⟨p1, p2, p3, p4, p5⟩ := X.places
  have wb := X.wb
  have mb := X.mb
  have us := X.F.us
  have cvb := X.cvb
  have sz := sz_pos hc.1 hc.2
  have e0 : newAl p who c = askAl p w who c 0 := by
    unfold newAl askAl; rw [Int.add_zero, Int.emod_eq_of_lt wh.1 wh.2]
  rcases ask_path X hwf hu wh hc w.toNat 0 (Int.le_refl 0) (by omega) A (later0 A).symm (by omega) with ⟨y, a1, a2⟩ | ⟨k, b, l, y, i, a1, a2, a3, a4, a5, a6, a7, n, a8, a9⟩
  · have Y : SL (A.later w) p w m S := X.later (by omega)
    have yu : (A.later w).uses ≤ 1000000000 := by show A.uses + w ≤ _; omega
    by_cases hf : S.cv + sizeF c ≤ m
    · -- new words
      have cp := carve_yes Y yu (who := who) (j := w) (y := y) hc ⟨by omega, by omega⟩ hf
      have Z := (Y.later (n := 1) (by omega)).carve (by show A.uses + w + 1 ≤ _; omega) hc.1 hc.2 hf
      generalize hD : (((A.later w).later 1).later 1).setR p.carved.toNat (S.cv + sizeF c) = D at *
      have okc : (((A.later w).later 1).later 1).rawOk p.carved := ⟨by omega, X.rl⟩
      have du : D.uses = A.uses + w + 1 + 1 := by rw [← hD]; rfl
      have dwf : D.wf := by rw [← hD]; exact setR_wf (later_wf (later_wf (later_wf hwf _) _) _) _ _
      have hcl : S.cl S.cv = -1 := by
        by_cases h : S.cl S.cv = -1
        · exact h
        · have := X.blk _ h; have := sz_pos this.1 this.2.1; omega
      have gz : S.gn S.cv = 0 := X.gnz _ (Int.le_refl _)
      have ecl : updI S.cl S.cv c S.cv = c := if_pos rfl
      have dst : ∀ h, D.stF h = A.stF h := fun h => by rw [← hD]; exact stF_slots rfl h
      obtain ⟨v1, ⟨o1, o2, o3, o4⟩, v2, v3, v4, v5⟩ := Z.bear dwf (by omega) (b := S.cv) (c := c) ecl (by omega) (fun k hk => by
        have := X.chc k _ hk; have := X.F.rg k (by intro e; rw [e] at hk; cases hk); omega) (fun h hh e => by
        rw [dst] at hh
        have := (X.act h hh).1; rw [e, hcl] at this; have := (opC_nat h).1; omega)
      have bl := bear_last Z (by omega) (who := who) (j := w) (y := y) (b := S.cv) (c := c) ⟨by omega, by omega⟩ ecl (by omega) v2
      dsimp only at v1 v2 v3 v4 v5 bl o1 o2 o3 o4
      rw [gz] at v1 v2 v3 v4 v5 bl o1 o2 o3 o4
      rw [if_pos rfl] at v3
      have e1 : (0 : Int) + 1 = 1 := rfl
      rw [e1] at v1 v2 v3 v4 v5 bl o1 o2 o3 o4
      have hn0 : packF S.cv 1 c ≠ 0 := fun e => by rw [e] at o2; revert o2; decide
      have okg : (D.later 1).rawOk (p.gens + S.cv / 8) := by
        refine ⟨by omega, ?_⟩
        have hl : (D.raw.length : Int) = A.raw.length := by rw [← hD]; show ((A.raw.set _ _).length : Int) = _; rw [List.length_set]
        show _ < (D.raw.length : Int); rw [hl]; have := X.rl; omega
      have off1 : Off p.carved (w + 1 + 1 + 0) A D := by
        rw [← hD]
        exact (((Off.later hwf w).trans (Off.later (later_wf hwf _) 1)).trans (Off.later (later_wf (later_wf hwf _) _) 1)).trans (Off.setR (later_wf (later_wf (later_wf hwf _) _) _) okc (Int.le_refl _))
      have off2 := (off1.trans (Off.later dwf 1)).trans (Off.setR (c := p.carved) (v := 1) (later_wf dwf 1) okg (by omega))
      have off3 := off2.trans (Off.bornF (c := p.carved) off2.wf (by rw [off2.fr]; exact X.fr) (k := packF S.cv 1 c) v2.2.1)
      have run := (a2.trans cp).run bl
      rw [← e0] at run
      refine ⟨_, _, _, _, ⟨run, ?_, ?_, v3, fun k => ?_, ?_, ?_, by omega, fun _ => ⟨o3, o4, ?_⟩⟩⟩
      · exact Gives.carve a1 hf
      · have en : ((w.toNat + 2 + 1 : Nat) : Int) = w + 1 + 1 + 0 + 1 + 0 + 0 := by omega
        rw [en]; exact off3
      · dsimp only
        rw [v4]
        by_cases e : k = packF S.cv 1 c
        · rw [if_pos e, if_pos ⟨hn0, e⟩]
        · rw [if_neg e, if_neg (fun h => e h.2)]; exact dst k
      · dsimp only
        rw [v5, if_pos hn0]
        have : D.nL = A.nL := by rw [← hD]; rfl
        rw [this]
      · have h1 := (bornF_counts ((D.later 1).setR (p.gens + S.cv / 8).toNat 1) off2.wf (packF S.cv 1 c)).2.2.2
        rw [h1]
        show D.nR = _
        rw [← hD]; rfl
      · dsimp only
        by_cases z : A.stF (packF S.cv 1 c) = 0
        · exact z
        · have := (X.act _ z).1
          rw [o1, hcl, o3] at this; omega
    · have cn := carve_no Y yu (who := who) (j := w) (y := y) hc ⟨by omega, by omega⟩ hf
      have run := a2.run cn
      rw [← e0] at run
      have ew : (A.later w).later 1 = A.later (w + 1) := by unfold Ar.later; simp only [Ar.mk.injEq, true_and]; omega
      rw [ew] at run
      refine ⟨_, _, _, S, ⟨run, .none a1 hf, ?_, X.later (by omega), fun k => ?_, ?_, rfl, by omega, fun h => (h rfl).elim⟩⟩
      · have en : ((w.toNat + 1 : Nat) : Int) = w + 1 := by omega
        rw [en]; exact Off.later hwf _
      · rw [if_neg (fun h => h.1 rfl)]; exact stF_slots rfl k
      · rw [if_neg (fun h => h rfl), Int.add_zero]; rfl
  · -- out of a list
    have Y : SL (A.later i) p w m S := X.later (by omega)
    have yu : (A.later i).uses ≤ 1000000000 := by show A.uses + i ≤ _; omega
    have Z := Y.pop yu a2
    have o1k := X.F.hdOk a3 a4
    have dwf := popped_wf (later_wf hwf i) k (4 * w + b / 8)
    have dus : ((A.later i).popped k (4 * w + b / 8)).uses = A.uses + i + 3 := rfl
    have dst : ∀ h, ((A.later i).popped k (4 * w + b / 8)).stF h = A.stF h := fun h => stF_slots rfl h
    have dnl : ((A.later i).popped k (4 * w + b / 8)).nL = A.nL := rfl
    have dnr : ((A.later i).popped k (4 * w + b / 8)).nR = A.nR := rfl
    have drl : (((A.later i).popped k (4 * w + b / 8)).raw.length : Int) = A.raw.length := by unfold Ar.popped Ar.later; simp
    have off1 : Off p.carved (i + 3) A ((A.later i).popped k (4 * w + b / 8)) := (Off.later hwf i).trans (Off.popped (later_wf hwf i) (show (A.later i).rawOk k from o1k) (by omega))
    generalize hD : (A.later i).popped k (4 * w + b / 8) = D at *
    have hcb : S.cl b = c := by have := X.chc k b (by rw [a2]; simp); omega
    have hch : ∀ j, b ∉ upd S.ch k l j := fun j hj => by
      unfold upd at hj
      split at hj
      · have := X.F.nd k; rw [a2] at this; exact (List.nodup_cons.1 this).1 hj
      · rename_i hne
        exact hne (X.F.dj j k b hj (by rw [a2]; simp))
    have hact : ∀ h, D.stF h ≠ 0 → opB h ≠ b := fun h hh e => by
      rw [dst] at hh
      exact (X.act h hh).2 k (by rw [e, a2]; simp)
    obtain ⟨v1, ⟨o1, o2, o3, o4⟩, v2, v3, v4, v5⟩ := Z.bear dwf (by omega) (b := b) (c := c) hcb (by omega) hch hact
    have bl := bear_last Z (by omega) (who := who) (j := i + 1) (y := y) (b := b) (c := c) ⟨by omega, by omega⟩ hcb (by omega) v2
    dsimp only at v1 v2 v3 v4 v5 bl o1 o2 o3 o4
    have gb := X.gnb b
    have hn0 : packF b (S.gn b + 1) c ≠ 0 := fun e => by
      rw [e] at o2
      have z : opG 0 = 0 := by decide
      rw [z] at o2; omega
    have blk := X.blk b (by rw [hcb]; omega)
    rw [hcb] at blk
    have okg : (D.later 1).rawOk (p.gens + b / 8) := by
      refine ⟨by omega, ?_⟩
      show _ < (D.raw.length : Int); rw [drl]; have := X.rl; omega
    have off2 := (off1.trans (Off.later dwf 1)).trans (Off.setR (c := p.carved) (v := S.gn b + 1) (later_wf dwf 1) okg (by omega))
    have off3 := off2.trans (Off.bornF (c := p.carved) off2.wf (by rw [off2.fr]; exact X.fr) (k := packF b (S.gn b + 1) c) v2.2.1)
    have run := a9.run bl
    rw [← e0] at run
    refine ⟨_, _, _, _, ⟨run, ?_, ?_, v3, fun j => ?_, ?_, ?_, by omega, fun _ => ⟨o3, o4, ?_⟩⟩⟩
    · exact Gives.list a1 a2 a3 a4 a5
    · have en : ((n + 1 : Nat) : Int) = i + 3 + 1 + 0 + 0 := by omega
      rw [en]; exact off3
    · dsimp only
      rw [v4]
      by_cases e : j = packF b (S.gn b + 1) c
      · rw [if_pos e, if_pos ⟨hn0, e⟩]
      · rw [if_neg e, if_neg (fun h => e h.2)]; exact dst j
    · dsimp only
      rw [v5, if_pos hn0, dnl]
    · have h1 := (bornF_counts ((D.later 1).setR (p.gens + b / 8).toNat (S.gn b + 1)) off2.wf (packF b (S.gn b + 1) c)).2.2.2
      rw [h1]
      show D.nR = _
      rw [dnr]
    · dsimp only
      by_cases z : A.stF (packF b (S.gn b + 1) c) = 0
      · exact z
      · exact ((X.act _ z).2 k (by rw [o1, a2]; simp)).elim
end
end Go.Proofs.Ytfphgiipekkgdaa

set_option linter.unusedVariables false
set_option linter.unusedSimpArgs false
set_option maxRecDepth 20000
namespace Go.Proofs.Ytfphgiipekkgdaa
open Go Go.Fw

section
variable {A B C : Ar} {p : Pl} {w m : Int} {S : Sg} {c : Int}

theorem Gives.or {who h : Int} {S' : Sg} (g : Gives S w m who c S' h) :
    (∃ k b l, S.ask w who c w.toNat 0 = some k ∧ S.ch k = b :: l ∧ 0 ≤ k ∧ k < 4 * w ∧ k % 4 = c ∧ S' = { S with ch := upd S.ch k l, gn := updI S.gn b (S.gn b + 1), nc := S.nc + (if S.gn b = 0 then sizeF c else 0) } ∧ h = packF b (S.gn b + 1) c) ∨
    (S.ask w who c w.toNat 0 = Option.none ∧ S.cv + sizeF c ≤ m ∧ S' = { S with cv := S.cv + sizeF c, cl := updI S.cl S.cv c, gn := updI S.gn S.cv 1, nc := S.nc + sizeF c } ∧ h = packF S.cv 1 c) ∨
    (S.ask w who c w.toNat 0 = Option.none ∧ ¬ S.cv + sizeF c ≤ m ∧ S' = S ∧ h = 0) := by
  cases g with
  | list h1 h2 h3 h4 h5 => exact .inl ⟨_, _, _, h1, h2, h3, h4, h5, rfl, rfl⟩
  | carve h1 h2 => exact .inr (.inl ⟨h1, h2, rfl, rfl⟩)
  | none h1 h2 => exact .inr (.inr ⟨h1, h2, rfl, rfl⟩)

/-- What is known of what was carved. -/
theorem carve_name (X : SL A p w m S) (hc : 0 ≤ c ∧ c < 4) (hf : S.cv + sizeF c ≤ m) : opB (packF S.cv 1 c) = S.cv ∧ opG (packF S.cv 1 c) = 1 ∧ opC (packF S.cv 1 c) = c ∧ openOk (packF S.cv 1 c) = true ∧ packF S.cv 1 c ≠ 0 := by
  have sz := sz_pos hc.1 hc.2
  have cvb := X.cvb
  have mb := X.mb
  obtain ⟨o1, o2, o3, o4⟩ := opB_pack (b := S.cv) (g := 1) (c := c) ⟨by omega, by omega, by omega, by omega, by omega, by omega⟩
  refine ⟨o1, o2, o3, o4, fun e => ?_⟩
  rw [e] at o2; revert o2; decide
theorem list_name (X : SL A p w m S) (hu : A.uses ≤ 1000000000) {k b : Int} {l : List Int} (hk : S.ch k = b :: l) (hc : k % 4 = c) : opB (packF b (S.gn b + 1) c) = b ∧ opG (packF b (S.gn b + 1) c) = S.gn b + 1 ∧ opC (packF b (S.gn b + 1) c) = c ∧ openOk (packF b (S.gn b + 1) c) = true ∧ packF b (S.gn b + 1) c ≠ 0 := by
  have gb := X.gnb b
  have hcb := X.chc k b (by rw [hk]; simp)
  have blk := X.blk b (by omega)
  have cvb := X.cvb
  have mb := X.mb
  have sz := sz_pos blk.1 blk.2.1
  obtain ⟨o1, o2, o3, o4⟩ := opB_pack (b := b) (g := S.gn b + 1) (c := c) ⟨by omega, by omega, by omega, by omega, by omega, by omega⟩
  refine ⟨o1, o2, o3, o4, fun e => ?_⟩
  rw [e] at o2
  have z : opG 0 = 0 := by decide
  rw [z] at o2; omega

theorem ask_nil {who : Int} (h : ∀ k, S.ch k = []) : ∀ (f : Nat) (j : Int), S.ask w who c f j = Option.none
  | 0, _ => rfl
  | f + 1, j => by unfold Sg.ask; rw [if_pos (h _)]; exact ask_nil h f (j + 1)

/-! ### A free alone, to its end -/

structure Freed (A : Ar) (p : Pl) (w m : Int) (S : Sg) (who h : Int) (x' : Fe) (A' : Ar) : Prop where
  run : mFe.Runs 3 (newFe p who h) A x' A'
  off : Off p.carved 3 A A'
  sl : SL A' p w m { S with ch := upd S.ch (4 * who + opC h) (opB h :: S.ch (4 * who + opC h)) }
  st : ∀ k, A'.stF k = if k = h then 0 else A.stF k
  nL : A'.nL = A.nL
  nR : A'.nR = A.nR - sizeF (opC h)

theorem free_solo (X : SL A p w m S) (hwf : A.wf) (hu : A.uses ≤ 1000000) {who h : Int} (wh : 0 ≤ who ∧ who < w) (hs : A.stF h = 2) (cn : -(64 * (A.uses + 1)) ≤ A.nR - sizeF (opC h)) : ∃ x' A', Freed A p w m S who h x' A' := by
  obtain ⟨p1, p2, p3, p4, p5⟩ := X.places
  have wb := X.wb
  have mb := X.mb
  have us := X.F.us
  have cvb := X.cvb
  have hC := opC_nat h
  obtain ⟨a1, a2⟩ := X.act h (by rw [hs]; decide)
  obtain ⟨b1, b2, b3, b4, b5⟩ := X.blk (opB h) (by omega)
  have sz := sz_pos b1 b2
  have hh := headF_eq (p := p) (w := who) (c := opC h) p1 ⟨wh.1, by omega⟩ hC
  have hb : 0 ≤ opB h ∧ opB h % 8 = 0 ∧ opB h / 8 < (m + 7) / 8 := ⟨b3, b4, by omega⟩
  generalize hk : 4 * who + opC h = k at *
  have k0 : 0 ≤ k := by omega
  have k1 : k < 4 * w := by omega
  have o1 : A.rawOk k := X.F.hdOk k0 k1
  have o2 := X.F.lkOk hb.1 hb.2.2
  have nb := X.F.nb
  have td : Int.tdiv (opB h) 8 = opB h / 8 := Int.tdiv_eq_ediv_of_nonneg hb.1
  have el : w64 (p.links + w64 (Int.tdiv (opB h) 8)) = 4 * w + opB h / 8 := by rw [td, p2, w64_in (x := opB h / 8) (by omega) (by omega), w64_in (by omega) (by omega)]
  have t1 : w64 (A.uses + 1) = A.uses + 1 := w64_in (by omega) (by omega)
  have t2 : w64 (A.uses + 1 + 1) = A.uses + 1 + 1 := w64_in (by omega) (by omega)
  have t3 : w64 (A.uses + 1 + 1 + 1) = A.uses + 1 + 1 + 1 := w64_in (by omega) (by omega)
  have e1 := Pu.s0 (A := A) (x := ⟨p, k, 0, 0, opB h⟩) rfl o1
  have e2 := Pu.s1 (A := A.tick) (x := ⟨p, k, A.rawF k, 1, opB h⟩) rfl el o2
  have o3 : (A.tick.tick.setR (4 * w + opB h / 8).toNat (iand (A.rawF k) 131071)).rawOk k := by
    unfold Ar.rawOk at *; show 0 ≤ k ∧ k < ((A.raw.set _ _).length : Int); rw [List.length_set]; exact o1
  have hhd : (A.tick.tick.setR (4 * w + opB h / 8).toNat (iand (A.rawF k) 131071)).rawF k = A.rawF k := by
    rw [rawF_setR (A := A.tick.tick) o2, if_neg (by omega)]; rfl
  have e3 := Pu.s2y (A := A.tick.tick.setR (4 * w + opB h / 8).toNat (iand (A.rawF k) 131071)) (x := ⟨p, k, A.rawF k, 2, opB h⟩) rfl o3 hhd
  have ef : (A.tick.tick.setR (4 * w + opB h / 8).toNat (iand (A.rawF k) 131071)).tick.setR k.toNat (nextF (A.rawF k) (w64 (w64 (Int.tdiv (opB h) 8) + 1))) = A.pushed k (4 * w + opB h / 8) (opB h) := by
    unfold Ar.pushed Ar.setR Ar.tick
    simp only [t1, t2, t3, Ar.mk.injEq, true_and]
    omega
  have c1 : (Pu.mk p k 0 0 (opB h)).stepB A = false := by rw [← Pu.fin, (Prod.mk.inj e1).1]; rfl
  have c2 : (Pu.mk p k (A.rawF k) 1 (opB h)).stepB A.tick = false := by rw [← Pu.fin, (Prod.mk.inj e2).1]; rfl
  have c3 : (Pu.mk p k (A.rawF k) 2 (opB h)).stepB (A.tick.tick.setR (4 * w + opB h / 8).toNat (iand (A.rawF k) 131071)) = true := by rw [← Pu.fin, (Prod.mk.inj e3).1]; rfl
  have ne : newFe p who h = ⟨h, false, ⟨p, k, 0, 0, opB h⟩⟩ := by unfold newFe; rw [hh]
  have s1 : Fe.step ⟨h, false, ⟨p, k, 0, 0, opB h⟩⟩ A = (⟨h, false, ⟨p, k, A.rawF k, 1, opB h⟩⟩, A.tick) := by
    unfold Fe.step
    simp only [c1, Bool.false_eq_true, if_false]
    rw [(Prod.mk.inj e1).1, (Prod.mk.inj e1).2]
  have s2 : Fe.step ⟨h, false, ⟨p, k, A.rawF k, 1, opB h⟩⟩ A.tick = (⟨h, false, ⟨p, k, A.rawF k, 2, opB h⟩⟩, A.tick.tick.setR (4 * w + opB h / 8).toNat (iand (A.rawF k) 131071)) := by
    unfold Fe.step
    simp only [c2, Bool.false_eq_true, if_false]
    rw [(Prod.mk.inj e2).1, (Prod.mk.inj e2).2]
  have s3 : Fe.step ⟨h, false, ⟨p, k, A.rawF k, 2, opB h⟩⟩ (A.tick.tick.setR (4 * w + opB h / 8).toNat (iand (A.rawF k) 131071)) = (⟨h, true, ⟨p, k, A.rawF k, 3, opB h⟩⟩, (A.pushed k (4 * w + opB h / 8) (opB h)).diedF h) := by
    unfold Fe.step
    simp only [c3, Bool.false_eq_true, if_false, if_true]
    rw [(Prod.mk.inj e3).1, (Prod.mk.inj e3).2, ef]
  obtain ⟨g1, g2, g3, g4⟩ := X.give hwf (by omega) hs wh.1 wh.2 cn
  rw [hk] at g1 g2 g3 g4
  have off : Off p.carved 3 A ((A.pushed k (4 * w + opB h / 8) (opB h)).diedF h) := by
    have := (Off.pushed (c := p.carved) (b := opB h) hwf o1 o2 (by omega) (by omega)).trans (Off.diedF (c := p.carved) (pushed_wf hwf k (4 * w + opB h / 8) (opB h)) h)
    exact this
  have r : mFe.Runs (2 + 1) ⟨h, false, ⟨p, k, 0, 0, opB h⟩⟩ A ⟨h, true, ⟨p, k, A.rawF k, 3, opB h⟩⟩ ((A.pushed k (4 * w + opB h / 8) (opB h)).diedF h) := by
    refine Mch.Path.run (X := mFe) (k := 2) (n := 1) (.cons trivial s1 (Int.le_refl _) rfl (.cons trivial s2 (Int.le_refl _) rfl .nil)) (Mch.Runs.last trivial s3 ?_ rfl)
    rw [off.us]
    show A.uses + 3 ≤ w64 (w64 (w64 (A.uses + 1) + 1) + 1)
    rw [t1, t2, t3]; omega
  rw [← ne] at r
  exact ⟨_, _, ⟨r, off, by rw [hk]; exact g1, g2, g3, g4⟩⟩
end
end Go.Proofs.Ytfphgiipekkgdaa

set_option linter.unusedVariables false
set_option maxRecDepth 20000
namespace Go.Proofs.Ytfphgiipekkgdaa
open Go Go.Fw

theorem run11_go {M J : Type} {X : Mch M J} (hX : X.ok) {t : TypeId} (hinv : X.inv' t) {I : List Nat} {G : Heap} {n : Nat} {m m' : M} {A A' : Ar} (h : X.Runs n m A m' A') {L : Hands} :
    ∀ {i : Int} {b : Bool} {j : J} {R : Value → Heap → Prop}, (∀ j', Ok I G (keys (X.bl m' j')) → Aw I A' → X.addr j' = X.addr j → R (.bool true) (own A' (X.bl m' j') G)) → Aw I A → Ok I G (keys (X.bl m j)) → 0 ≤ i → i + n ≤ 300 →
      wp Try.prog (.loop 128 t_magpielaw11_run_L1_sh [(.bool b), (.int .i64 i)] (t_magpielaw11_run_L1 (aI I) (.iface t (.pointer (some ⟨X.addr j, 0, none⟩))))) L (own A (X.bl m j) G) R := by
  induction h with
  | @one m A hi hu hf =>
    intro i b j R hR hA ok h0 h1
    refine wp_loop_unroll (b, i, ()) rfl ?_
    rw [t_magpielaw11_run_L1]
    refine wp_true (ilt (by show i < 300; omega)) ?_
    refine w_Uses hA ?_
    refine act_enter (hinv _ _) ?_
    refine wp_call_of (hX I A G m j hA ok hi) ?_
    rintro v K ⟨j', rfl, rfl, ha, ok', hA'⟩
    refine ⟨true, by rw [hf], ?_⟩
    refine w_Uses hA' ?_
    refine wp_false (inlt hu) ?_
    exact wp_true rfl (wp_ret_of (hR j' ok' hA' ha))
  | @more n m A m' A' hi hu hf hr ih =>
    intro i b j R hR hA ok h0 h1
    refine wp_loop_unroll (b, i, ()) rfl ?_
    rw [t_magpielaw11_run_L1]
    refine wp_true (ilt (by show i < 300; omega)) ?_
    refine w_Uses hA ?_
    refine act_enter (hinv _ _) ?_
    refine wp_call_of (hX I A G m j hA ok hi) ?_
    rintro v K ⟨j', rfl, rfl, ha, ok', hA'⟩
    refine ⟨false, by rw [hf], ?_⟩
    refine w_Uses hA' ?_
    refine wp_false (inlt hu) (wp_false rfl (wp_again ?_))
    have e : w64 (i + 1) = i + 1 := w64_in (by omega) (by omega)
    rw [e, ← ha]
    exact ih (fun j2 k1 k2 k3 => hR j2 k1 k2 (k3.trans ha)) hA' ok' (by omega) (by omega)

theorem run11 {M J : Type} {X : Mch M J} (hX : X.ok) {t : TypeId} (hinv : X.inv' t) {I : List Nat} {G : Heap} {n : Nat} {m m' : M} {A A' : Ar} (h : X.Runs n m A m' A') (hn : n ≤ 300) {j : J} (hA : Aw I A) (ok : Ok I G (keys (X.bl m j))) :
    SpecF Try.prog f_magpielaw11_run #[.pointer (aI I), .iface t (.pointer (some ⟨X.addr j, 0, none⟩))] (own A (X.bl m j) G) fun v K => ∃ j', v = .bool true ∧ K = own A' (X.bl m' j') G ∧ Ok I G (keys (X.bl m' j')) ∧ Aw I A' ∧ X.addr j' = X.addr j := by
  refine t_magpielaw11_run_spec fun L => ?_
  unfold t_magpielaw11_run
  exact run11_go hX hinv h (fun j' a b c => ⟨j', rfl, rfl, a, b, c⟩) hA ok (Int.le_refl 0) (by omega)

theorem w_run11 {M J : Type} {X : Mch M J} (hX : X.ok) {t : TypeId} (hinv : X.inv' t) {I : List Nat} {G : Heap} {n : Nat} {m m' : M} {A A' : Ar} (h : X.Runs n m A m' A') (hn : n ≤ 300) {j : J} {rest : Bl} (hA : Aw I A) (ok : Ok I G (keys (X.bl m j ++ rest)))
    {L : Hands} {R : Value → Heap → Prop} {k : Bool → Tree} (hk : ∀ j', X.addr j' = X.addr j → Aw I A' → Ok I G (keys (X.bl m' j' ++ rest)) → wp Try.prog (k true) L (own A' (X.bl m' j' ++ rest) G) R) :
    wp Try.prog (.call f_magpielaw11_run [.pointer (aI I), .iface t (.pointer (some ⟨X.addr j, 0, none⟩))] (.one (.leaf .bool)) k) L (own A (X.bl m j ++ rest) G) R := by
  rw [keys_append] at ok
  obtain ⟨o1, o2⟩ := ok.split
  refine w_sub (run11 hX hinv h hn hA o1) ?_
  rintro v K ⟨j', rfl, rfl, ok', hA', ha⟩
  refine ⟨true, rfl, ?_⟩
  rw [← own_append]
  exact hk j' ha hA' (by rw [keys_append]; exact ok'.join o2)
end Go.Proofs.Ytfphgiipekkgdaa

set_option linter.unusedVariables false
set_option maxRecDepth 20000
namespace Go.Proofs.Ytfphgiipekkgdaa
open Go Go.Fw

/-! ### Slices among blocks -/

theorem mem_idx {l : Bl} {p : Nat × Obj} (h : p ∈ l) : ∃ i : Nat, l[i]? = some p := List.mem_iff_getElem?.1 h

def bset (l : Bl) (b : Nat) (o : Obj) : Bl := l.map fun p => if p.1 = b then (b, o) else p
theorem keys_bset (l : Bl) (b : Nat) (o : Obj) : keys (bset l b o) = keys l := by
  unfold keys bset
  rw [List.map_map]
  refine List.map_congr_left fun p _ => ?_
  show (if p.1 = b then (b, o) else p).1 = p.1
  split
  · rename_i e; exact e.symm
  · rfl
theorem bset_append (l k : Bl) (b : Nat) (o : Obj) : bset (l ++ k) b o = bset l b o ++ bset k b o := by simp [bset]
theorem bset_out {l : Bl} {b : Nat} {o : Obj} (h : b ∉ keys l) : bset l b o = l := by
  unfold bset
  refine (List.map_congr_left fun p hp => ?_).trans (List.map_id l)
  rw [if_neg (fun e => h (List.mem_map.2 ⟨p, hp, e⟩))]; rfl
theorem mem_bset {l : Bl} {b : Nat} {o o' : Obj} (h : (b, o) ∈ l) : (b, o') ∈ bset l b o' := List.mem_map.2 ⟨(b, o), h, if_pos rfl⟩
theorem mem_bset_ne {l : Bl} {b c : Nat} {o o' : Obj} (h : (c, o) ∈ l) (hn : c ≠ b) : (c, o) ∈ bset l b o' := List.mem_map.2 ⟨(c, o), h, if_neg hn⟩
theorem bset_set {l : Bl} : ∀ {i : Nat} {b : Nat} {o o' : Obj}, (keys l).Nodup → l[i]? = some (b, o) → l.set i (b, o') = bset l b o' := by
  induction l with
  | nil => intro i b o o' _ h; simp at h
  | cons p l ih =>
    intro i b o o' hn h
    simp only [keys, List.map_cons, List.nodup_cons] at hn
    cases i with
    | zero =>
      simp only [List.getElem?_cons_zero, Option.some.injEq] at h
      subst h
      show (b, o') :: l = _
      unfold bset
      rw [List.map_cons, if_pos rfl]
      congr 1
      exact (bset_out (o := o') hn.1).symm
    | succ i =>
      simp only [List.getElem?_cons_succ] at h
      have hm : b ∈ keys l := List.mem_map.2 ⟨(b, o), List.mem_of_getElem? h, rfl⟩
      show p :: l.set i (b, o') = _
      unfold bset
      rw [List.map_cons, if_neg (fun e => hn.1 (by rw [e]; exact hm)), ih hn.2 h]; rfl

/-- Elements of a row: how many cells, which. -/
structure ElOk (sT e : TypeId) (sz : Nat) : Prop where
  ex : ∃ info z, Try.prog.underlying sT = some (.slice e) ∧ Try.prog.info? e = some info ∧ info.size = sz ∧ info.bytes ≤ 64 ∧ info.bytes ≠ 0 ∧ info.zero = some z ∧ z.cells.size = sz

structure Enc (α : Type) where
  sz : Nat
  enc : α → List Value
  len : ∀ x, (enc x).length = sz
  sg : ∀ x v, v ∈ enc x → Value.single v = true

def eI : Enc Int := ⟨1, fun n => [.int .i64 n], fun _ => rfl, fun x v h => by simp at h; subst h; rfl⟩
theorem elI : ElOk ty_s_int ty_int 1 := ⟨⟨_, _, rfl, rfl, rfl, by decide, by decide, rfl, rfl⟩⟩

def Enc.all {α : Type} (E : Enc α) (xs : List α) : List Value := xs.flatMap E.enc
theorem Enc.all_len {α : Type} (E : Enc α) (xs : List α) : (E.all xs).length = xs.length * E.sz := by
  induction xs with
  | nil => simp [Enc.all]
  | cons x xs ih =>
    have : E.all (x :: xs) = E.enc x ++ E.all xs := rfl
    rw [this, List.length_append, ih, E.len]; simp only [List.length_cons]
    rw [Nat.add_mul]; omega
theorem Enc.all_append {α : Type} (E : Enc α) (xs ys : List α) : E.all (xs ++ ys) = E.all xs ++ E.all ys := by simp [Enc.all]
theorem Enc.all_sg {α : Type} (E : Enc α) (xs : List α) : ∀ v ∈ E.all xs, Value.single v = true := by
  intro v hv
  obtain ⟨x, _, h⟩ := List.mem_flatMap.1 hv
  exact E.sg x v h
theorem eI_all (xs : List Int) : eI.all xs = xs.map (Value.int .i64) := by
  induction xs with
  | nil => rfl
  | cons x xs ih => show Value.int .i64 x :: eI.all xs = _; rw [ih]; rfl

/-- A slice that begins its block. -/
def SlOf {α : Type} (l : Bl) (e : TypeId) (E : Enc α) (s : Sl) (xs : List α) : Prop :=
  (s = ⟨none, 0, 0⟩ ∧ xs = []) ∨ ∃ (b : Nat) (rest : List Value) (r : Nat), s = ⟨some ⟨b, 0, none⟩, xs.length, xs.length + r⟩ ∧ rest.length = r * E.sz ∧ (b, oc e (E.all xs ++ rest)) ∈ l

section
variable {α : Type} {E : Enc α} {e : TypeId} {s t : Sl} {xs ys : List α} {l l' : Bl}
theorem SlOf.len (h : SlOf l e E s xs) : s.len = xs.length := by
  rcases h with ⟨rfl, rfl⟩ | ⟨b, rest, r, rfl, _⟩ <;> rfl
theorem SlOf.nil (l : Bl) (e : TypeId) (E : Enc α) : SlOf l e E ⟨none, 0, 0⟩ [] := .inl ⟨rfl, rfl⟩
theorem SlOf.mono (h : SlOf l e E s xs) (hm : ∀ p, p ∈ l → p ∈ l') : SlOf l' e E s xs := by
  rcases h with h | ⟨b, rest, r, h1, h2, h3⟩
  · exact .inl h
  · exact .inr ⟨b, rest, r, h1, h2, hm _ h3⟩
theorem SlOf.keep (h : SlOf l e E s xs) {b : Nat} {o : Obj} (hn : ∀ a, s.a = some a → a.block ≠ b) : SlOf (bset l b o) e E s xs := by
  rcases h with h | ⟨c, rest, r, h1, h2, h3⟩
  · exact .inl h
  · exact .inr ⟨c, rest, r, h1, h2, mem_bset_ne h3 (hn ⟨c, 0, none⟩ (by rw [h1]))⟩

/-- The first n. -/
theorem SlOf.take (h : SlOf l e E s xs) {n : Nat} (hn : n ≤ xs.length) : SlOf l e E ⟨s.a, n, s.cap⟩ (xs.take n) := by
  rcases h with ⟨rfl, rfl⟩ | ⟨b, rest, r, rfl, h2, h3⟩
  · have : n = 0 := by simpa using hn
    subst this; exact .inl ⟨rfl, rfl⟩
  · refine .inr ⟨b, E.all (xs.drop n) ++ rest, xs.length - n + r, ?_, ?_, ?_⟩
    · simp only [List.length_take, Sl.mk.injEq, true_and]
      exact ⟨by omega, by omega⟩
    · rw [List.length_append, E.all_len, h2, List.length_drop, Nat.add_mul]
    · rw [← List.append_assoc, ← E.all_append, List.take_append_drop]; exact h3
end

section
variable {L : Hands} {R : Value → Heap → Prop} {A : Ar} {I : List Nat} {l : Bl} {G : Heap}

theorem own_mem (hA : Aw I A) (ok : Ok I G (keys l)) {b : Nat} {o : Obj} (h : (b, o) ∈ l) : own A l G b = some o := by
  obtain ⟨i, hi⟩ := mem_idx h; exact own_get hA ok hi
theorem own_bset (hA : Aw I A) (ok : Ok I G (keys l)) {b : Nat} {o : Obj} (o' : Obj) (h : (b, o) ∈ l) : (own A l G).set b o' = own A (bset l b o') G := by
  obtain ⟨i, hi⟩ := mem_idx h; rw [own_set hA ok o' hi, bset_set ok.nd hi]

theorem keys_append' (l k : Bl) : keys (l ++ k) = keys l ++ keys k := by simp [keys]

/-- One behind the first ones. -/
theorem own_mid {pre tl : Bl} {p : Nat × Obj} (ok : Ok I G (keys (p :: (pre ++ tl)))) : own A (p :: (pre ++ tl)) G = own A (pre ++ p :: tl) G ∧ Ok I G (keys (pre ++ p :: tl)) := by
  have e : ∀ ks : List Nat, (p.1 :: (keys pre ++ ks)).Nodup → (keys pre ++ p.1 :: ks).Nodup := fun ks h => (List.perm_middle.nodup_iff).2 h
  have ok1 : Ok I G (keys (pre ++ p :: tl)) := by
    have hk : keys (p :: (pre ++ tl)) = p.1 :: (keys pre ++ keys tl) := by simp [keys]
    have hk2 : keys (pre ++ p :: tl) = keys pre ++ p.1 :: keys tl := by simp [keys]
    rw [hk] at ok; rw [hk2]
    exact ok.sub (e _ ok.nd) fun b hb => by
      simp only [List.mem_append, List.mem_cons] at hb ⊢
      rcases hb with h | h | h
      · exact .inr (.inl h)
      · exact .inl h
      · exact .inr (.inr h)
  refine ⟨?_, ok1⟩
  have hget : (pre ++ p :: tl)[pre.length]? = some p := by simp
  have := own_front (A := A) ok1 hget
  rw [this]
  have h2 : (pre ++ p :: tl).eraseIdx pre.length = pre ++ tl := by
    rw [List.eraseIdx_append_of_length_le (Nat.le_refl _)]; simp
  rw [h2]

theorem cell_row {b : Nat} {T : TypeId} {c : List Value} (hA : Aw I A) (ok : Ok I G (keys l)) (h : (b, oc T c) ∈ l) (o : Nat) {cs : List Value} (hc : cs = (c.drop o).take cs.length) : Row (own A l G) (some ⟨b, o, none⟩) cs := by
  intro i hi
  refine ⟨_, rfl, ?_⟩
  rw [Addr.add_mk, Heap.cell_of (own_mem hA ok h), List.getElem?_toArray, hc, List.getElem?_take_of_lt (by rw [hc] at hi; simp at hi ⊢; omega), List.getElem?_drop]

theorem SlOf.row {α : Type} {E : Enc α} {e : TypeId} {s : Sl} {xs : List α} (hA : Aw I A) (ok : Ok I G (keys l)) (h : SlOf l e E s xs) : Row (own A l G) s.a (E.all xs) := by
  rcases h with ⟨rfl, rfl⟩ | ⟨b, rest, r, rfl, h2, h3⟩
  · intro i hi; simp [Enc.all] at hi
  · exact cell_row hA ok h3 0 (by simp)

/-- What a slice's lower end leaves. -/
theorem SlOf.rowFrom {α : Type} {E : Enc α} {e : TypeId} {b len cap : Nat} {xs : List α} (hA : Aw I A) (ok : Ok I G (keys l)) (h : SlOf l e E ⟨some ⟨b, 0, none⟩, len, cap⟩ xs) (n : Nat) (hn : n ≤ xs.length) : Row (own A l G) (some ⟨b, n * E.sz, none⟩) (E.all (xs.drop n)) := by
  rcases h with ⟨h, _⟩ | ⟨b', rest, r, h1, h2, h3⟩
  · cases h
  · cases h1
    refine cell_row hA ok h3 (n * E.sz) ?_
    have e1 : E.all xs = E.all (xs.take n) ++ E.all (xs.drop n) := by rw [← E.all_append, List.take_append_drop]
    have e2 : (E.all (xs.take n)).length = n * E.sz := by rw [E.all_len, List.length_take, Nat.min_eq_left hn]
    rw [e1, List.append_assoc, ← e2, List.drop_left]
    simp

inductive App (l : Bl) (s : Sl) (l' : Bl) (s' : Sl) : Prop
  | same : l' = l → s' = s → App l s l' s'
  | inpl (b : Nat) (o : Obj) : s.a = some ⟨b, 0, none⟩ → s'.a = s.a → l' = bset l b o → b ∈ keys l → App l s l' s'
  | new (b : Nat) (o : Obj) : s'.a = some ⟨b, 0, none⟩ → l' = (b, o) :: l → b ∉ keys l → App l s l' s'

theorem putAll_mid (x : List Value) : ∀ (pre mid post : List Value), mid.length = x.length → putAll (pre ++ mid ++ post).toArray pre.length x = (pre ++ x ++ post).toArray := by
  induction x with
  | nil => intro pre mid post h; have : mid = [] := List.eq_nil_of_length_eq_zero h; subst this; rfl
  | cons v x ih =>
    intro pre mid post h
    cases mid with
    | nil => simp at h
    | cons m mid =>
      have h' : mid.length = x.length := by simpa using h
      show putAll ((pre ++ m :: mid ++ post).toArray.setIfInBounds pre.length v) (pre.length + 1) x = _
      have e : (pre ++ m :: mid ++ post).toArray.setIfInBounds pre.length v = ((pre ++ [v]) ++ mid ++ post).toArray := by
        apply Array.ext'
        rw [Array.toList_setIfInBounds]
        simp
      rw [e]
      have := ih (pre ++ [v]) mid post h'
      rw [List.length_append] at this
      rw [show pre.length + 1 = pre.length + [v].length from rfl, this]
      simp

/-- Append. -/
theorem w_app {sT e u : TypeId} {α : Type} {E : Enc α} (hE : ElOk sT e E.sz) {xs ys : List α} {s t : Sl} {k : Sl → Tree} (hA : Aw I A) (ok : Ok I G (keys l)) (hs : SlOf l e E s xs) (ht : Row (own A l G) t.a (E.all ys)) (htl : t.len = ys.length) (hm : xs.length + ys.length ≤ 1048576)
    (h : ∀ s' l', SlOf l' e E s' (xs ++ ys) → Ok I G (keys l') → App l s l' s' → wp Try.prog (k s') L (own A l' G) R) :
    wp Try.prog (.act (opS Try.prog (.call { callee := .builtin .append, args := #[(.tmp 0), (.tmp 1)], argTypes := #[sT, sT] }) u [(.slice s.a s.len s.cap), (.slice t.a t.len t.cap)]) (.one (.leaf .slice)) k) L (own A l G) R := by
  obtain ⟨info, z, i1, i2, i3, i4, i5, i6, i7⟩ := hE.ex
  have hln := hs.len
  refine append_gen (info := info) (z := z) (old := E.all xs) (new := E.all ys) i1 i2 i4 i5 i6 (i7.trans i3.symm) (hs.row hA ok) (by rw [E.all_len, hln, i3]) ht (by rw [E.all_len, htl, i3]) (by omega) ?_ ?_
  · intro hc
    by_cases hy : ys = []
    · subst hy
      refine .inl ⟨htl, s, rfl, ?_⟩
      exact h s l (by rw [List.append_nil]; exact hs) ok (.same rfl rfl)
    · rcases hs with ⟨rfl, rfl⟩ | ⟨b, rest, r, rfl, h2, h3⟩
      · have : ys.length = 0 := by rw [htl] at hc; have : 0 + ys.length ≤ 0 := hc; omega
        exact (hy (List.eq_nil_of_length_eq_zero this)).elim
      · have hr : ys.length ≤ r := by
          have : xs.length + t.len ≤ xs.length + r := hc
          omega
        have hmul : ys.length * E.sz ≤ r * E.sz := Nat.mul_le_mul_right _ hr
        refine .inr ⟨b, _, e, rfl, own_mem hA ok h3, ?_, E.all_sg ys, ⟨some ⟨b, 0, none⟩, xs.length + t.len, xs.length + r⟩, rfl, ?_⟩
        · show (xs.length + t.len) * info.size ≤ _
          rw [i3, htl, Nat.add_mul]; simp only [List.size_toArray, List.length_append, E.all_len, h2]; omega
        · have e1 : putAll (E.all xs ++ rest).toArray (xs.length * info.size) (E.all ys) = (E.all (xs ++ ys) ++ rest.drop (ys.length * E.sz)).toArray := by
            have := putAll_mid (E.all ys) (E.all xs) (rest.take (ys.length * E.sz)) (rest.drop (ys.length * E.sz)) (by rw [E.all_len, List.length_take]; omega)
            rw [List.append_assoc, List.take_append_drop, E.all_len] at this
            rw [i3, this, E.all_append]
          have e2 := own_bset (G := G) hA ok (oc e (E.all (xs ++ ys) ++ rest.drop (ys.length * E.sz))) h3
          unfold oc at e2
          show wp Try.prog _ L ((own A l G).set b (.cells (putAll (E.all xs ++ rest).toArray (xs.length * info.size) (E.all ys)) e (0, 0))) R
          rw [e1, e2]
          refine h _ _ (.inr ⟨b, rest.drop (ys.length * E.sz), r - ys.length, ?_, ?_, mem_bset h3⟩) (by rw [keys_bset]; exact ok) (.inpl b _ rfl rfl rfl (List.mem_map.2 ⟨_, h3, rfl⟩))
          · simp only [List.length_append, Sl.mk.injEq, true_and]; omega
          · rw [List.length_drop, h2, ← Nat.sub_mul]
  · intro hc b rest r hb hr
    obtain ⟨o1, o2⟩ := own_new hA ok hb (oc e (E.all xs ++ E.all ys ++ rest))
    refine ⟨⟨some ⟨b, 0, none⟩, s.len + t.len, s.len + t.len + r⟩, rfl, ?_⟩
    show wp Try.prog _ L ((own A l G).set b (oc e (E.all xs ++ E.all ys ++ rest))) R
    rw [o2]
    refine h _ _ (.inr ⟨b, rest, r, ?_, by rw [hr, i3], ?_⟩) o1 (.new b _ rfl rfl (own_none hA hb).2.1)
    · rw [hln, htl, List.length_append]
    · rw [E.all_append]; exact List.mem_cons_self

/-- Append, of a slice behind the first blocks. -/
theorem w_appT {sT e u : TypeId} {α : Type} {E : Enc α} (hE : ElOk sT e E.sz) {xs ys : List α} {s t : Sl} {k : Sl → Tree} {pre tl : Bl} (hA : Aw I A) (ok : Ok I G (keys (pre ++ tl))) (hs : SlOf tl e E s xs) (ht : Row (own A (pre ++ tl) G) t.a (E.all ys)) (htl : t.len = ys.length) (hm : xs.length + ys.length ≤ 1048576)
    (h : ∀ s' tl', SlOf tl' e E s' (xs ++ ys) → Ok I G (keys (pre ++ tl')) → App tl s tl' s' → wp Try.prog (k s') L (own A (pre ++ tl') G) R) :
    wp Try.prog (.act (opS Try.prog (.call { callee := .builtin .append, args := #[(.tmp 0), (.tmp 1)], argTypes := #[sT, sT] }) u [(.slice s.a s.len s.cap), (.slice t.a t.len t.cap)]) (.one (.leaf .slice)) k) L (own A (pre ++ tl) G) R := by
  have okt : (keys pre ++ keys tl).Nodup := by rw [← keys_append']; exact ok.nd
  refine w_app hE hA ok (hs.mono fun p hp => List.mem_append_right _ hp) ht htl hm fun s' l' hs' ok' ap => ?_
  cases ap with
  | same h1 h2 =>
    subst h1; subst h2
    refine h s' tl ?_ ok (.same rfl rfl)
    rcases hs with ⟨q1, q2⟩ | ⟨b, rest, r, q1, q2, q3⟩
    · subst q1; subst q2
      rcases hs' with h | ⟨b, rest, r, h1, _⟩
      · exact .inl h
      · cases h1
    · have hl := hs'.len
      have : (xs ++ ys).length = xs.length := by rw [← hl, q1]
      have hy : ys = [] := by simp at this; exact this
      subst hy; rw [List.append_nil]; exact .inr ⟨b, rest, r, q1, q2, q3⟩
  | inpl b o h1 h2 h3 h4 =>
    have hbt : b ∈ keys tl := by
      rcases hs with ⟨q1, _⟩ | ⟨c, rest, r, q1, q2, q3⟩
      · rw [q1] at h1; cases h1
      · rw [q1] at h1; cases h1; exact List.mem_map.2 ⟨_, q3, rfl⟩
    have hbp : b ∉ keys pre := fun hp => (List.nodup_append.1 okt).2.2 b hp b hbt rfl
    rw [bset_append, bset_out hbp] at h3
    subst h3
    refine h s' _ ?_ ok' (.inpl b o h1 h2 rfl hbt)
    rcases hs' with q | ⟨c, rest, r, q1, q2, q3⟩
    · exact .inl q
    · refine .inr ⟨c, rest, r, q1, q2, ?_⟩
      rcases List.mem_append.1 q3 with m | m
      · exfalso
        have : c = b := by rw [q1, h1] at h2; cases h2; rfl
        exact hbp (this ▸ List.mem_map.2 ⟨_, m, rfl⟩)
      · exact m
  | new b o h1 h2 h3 =>
    subst h2
    obtain ⟨m1, m2⟩ := own_mid (A := A) ok'
    rw [m1]
    have hbp : b ∉ keys pre := fun hp => h3 (by rw [keys_append']; exact List.mem_append_left _ hp)
    have hbt : b ∉ keys tl := fun hp => h3 (by rw [keys_append']; exact List.mem_append_right _ hp)
    refine h s' ((b, o) :: tl) ?_ m2 (.new b o h1 rfl hbt)
    rcases hs' with q | ⟨c, rest, r, q1, q2, q3⟩
    · exact .inl q
    · refine .inr ⟨c, rest, r, q1, q2, ?_⟩
      rcases List.mem_cons.1 q3 with m | m
      · rw [m]; exact List.mem_cons_self
      · rcases List.mem_append.1 m with m | m
        · exfalso
          have : c = b := by rw [q1] at h1; cases h1; rfl
          exact hbp (this ▸ List.mem_map.2 ⟨_, m, rfl⟩)
        · exact List.mem_cons_of_mem _ m
end
end Go.Proofs.Ytfphgiipekkgdaa

set_option linter.unusedVariables false
set_option maxRecDepth 20000
namespace Go.Proofs.Ytfphgiipekkgdaa
open Go Go.Fw

/-! ### What laws use: before there is an arena, and at the end -/

structure Ok0 (G : Heap) (ks : List Nat) : Prop where
  nd : ks.Nodup
  no : ∀ b ∈ ks, G b = none

section
variable {L : Hands} {R : Value → Heap → Prop} {l : Bl} {G : Heap}

theorem p_new (ok : Ok0 G (keys l)) {b : Nat} (h : putL l G b = none) (o : Obj) : Ok0 G (keys ((b, o) :: l)) := by
  obtain ⟨h1, h2⟩ := putL_none h
  refine ⟨?_, ?_⟩
  · simp only [keys, List.map_cons, List.nodup_cons]; exact ⟨h1, ok.nd⟩
  · intro c hc
    simp only [keys, List.map_cons, List.mem_cons] at hc
    rcases hc with rfl | hc
    · exact h2
    · exact ok.no c hc

theorem p_newP {c : List Value} {T : TypeId} {k : Addr → Tree} (ok : Ok0 G (keys l)) (h : ∀ b, Ok0 G (keys ((b, oc T c) :: l)) → wp Try.prog (k ⟨b, 0, none⟩) L (putL ((b, oc T c) :: l) G) R) :
    wp Try.prog (.newP (.cells c.toArray T) k) L (putL l G) R := wp_newP fun b hb => h b (p_new ok hb _)
theorem p_stA (i : Nat) {a : Addr} {b n : Nat} {T : TypeId} {c : List Value} {vs : List Value} {k : Tree} (ok : Ok0 G (keys l)) (ha : a = ⟨b, n, none⟩) (hi : l[i]? = some (b, oc T c)) (hs : vs.all Value.single = true) (hn : (decide (n + vs.length ≤ c.length)) = true)
    (h : wp Try.prog k L (putL (l.set i (b, oc T (setAll c n vs))) G) R) : wp Try.prog (.stA a vs k) L (putL l G) R := by
  subst ha
  have hn := of_decide_eq_true hn
  refine wp_stA_of (putL_get G ok.nd hi) (by simpa using hn) (fun v hv => List.all_eq_true.1 hs v hv) ?_
  rw [putL_set G ok.nd hi, setAll_put]; exact h
theorem p_st (i : Nat) {a : Addr} {b n : Nat} {T : TypeId} {c : List Value} {v : Value} {k : Tree} (ok : Ok0 G (keys l)) (ha : a = ⟨b, n, none⟩) (hi : l[i]? = some (b, oc T c)) (hs : Value.single v = true) (hn : (decide (n < c.length)) = true)
    (h : wp Try.prog k L (putL (l.set i (b, oc T (c.set n v))) G) R) : wp Try.prog (.st a v k) L (putL l G) R := by
  subst ha
  have hn := of_decide_eq_true hn
  refine wp_st_of (u := c[n]) (putL_get G ok.nd hi) (by simp [hn]) hs ?_
  rw [putL_set G ok.nd hi]
  have : (c.toArray.setIfInBounds n v) = (c.set n v).toArray := by simp
  rw [this]; exact h
theorem p_ldA (i : Nat) {a : Addr} {b n : Nat} {T : TypeId} {c : List Value} {ls : List Leaf} {k : HL Leaf.T ls → Tree} {x : HL Leaf.T ls} (ok : Ok0 G (keys l)) (ha : a = ⟨b, n, none⟩) (hi : l[i]? = some (b, oc T c)) (hx : Lf.decs ls (c.drop n) = some x)
    (h : wp Try.prog (k x) L (putL l G) R) (hn : decide (n ≤ c.length) = true := by rfl) : wp Try.prog (.ldA a ls k) L (putL l G) R := by
  subst ha
  have hn := of_decide_eq_true hn
  obtain ⟨h1, h2⟩ := Lf.decs_ok hx
  rw [List.length_drop] at h1
  refine wp_ldA_of (x := x) (putL_get G ok.nd hi) (by simp; omega) ?_ h
  rw [← h2]; simp [List.extract_eq_take_drop]
theorem p_ld (i : Nat) {a : Addr} {b n : Nat} {T : TypeId} {c : List Value} {lf : Leaf} {k : lf.T → Tree} {x : lf.T} (ok : Ok0 G (keys l)) (ha : a = ⟨b, n, none⟩) (hi : l[i]? = some (b, oc T c)) (hx : (c[n]?).bind (Lf.dec lf) = some x)
    (h : wp Try.prog (k x) L (putL l G) R) : wp Try.prog (.ld a lf k) L (putL l G) R := by
  subst ha
  refine wp_ld_of (x := x) ?_ h
  rw [Heap.cell_of (putL_get G ok.nd hi), List.getElem?_toArray]
  cases hc : c[n]? with
  | none => rw [hc] at hx; cases hx
  | some v => rw [hc] at hx; exact congrArg some (Lf.dec_ok hx)

/-- An arena is made. -/
theorem w_New {n m : Int} {f : Bool} {k : Option Addr → Tree} (ok : Ok0 G (keys l)) (h0 : 0 ≤ n ∧ n ≤ 65536) (h1 : 0 ≤ m ∧ m ≤ 65536)
    (h : ∀ A : Ar, A.made n.toNat m.toNat f → Aw A.ids A → (∀ x ∈ A.ids, G x = none) → Ok A.ids G (keys l) → wp Try.prog (k (aI A.ids)) L (own A l G) R) :
    wp Try.prog (.call f_arena_New [.int .i64 n, .int .i64 m, .bool f] (.one (.leaf .ptr)) k) L (putL l G) R := by
  refine wp_call_of (New_spec n m f _ h0 h1) ?_
  rintro v K ⟨A, hm, hi, rfl, rfl⟩
  refine ⟨aI A.ids, rfl, ?_⟩
  refine h A hm ⟨made_wf hm (by omega) (by omega), rfl⟩ (fun x hx => (putL_none (hi x hx)).2) ⟨ok.nd, fun b hb hx => ?_, ok.no⟩
  exact (putL_none (hi b hx)).1 hb

theorem own_end {A : Ar} {I : List Nat} (hA : Aw I A) (ok : Ok I G (keys l)) (hI : ∀ x ∈ I, G x = none) : G.le (own A l G) := by
  intro b o hb
  unfold own
  rw [Ar.put_out, putL_out]
  · exact hb
  · intro h; rw [ok.no b h] at hb; cases hb
  · intro h; rw [hA.ids] at h; rw [hI b h] at hb; cases hb

theorem nn_some {t u : TypeId} (a : Addr) (h : opS Try.prog (.binOp .eql t (.tmp 0) (.const (.pointer none)) t) u [(.pointer (some a))] = .pure (.value (.bool false))) {k : Bool → Tree} {H : Heap} (hk : wp Try.prog (k false) L H R) :
    wp Try.prog (.look (opS Try.prog (.binOp .eql t (.tmp 0) (.const (.pointer none)) t) u [(.pointer (some a))]) (.one (.leaf .bool)) k) L H R := look_val (x := false) h hk

theorem wp_again_up {H : Heap} {n m : Nat} {vals : List Value} {C : List Value → Heap → Prop} (hn : n ≠ m) (h : wp Try.prog (.again n vals) L H R) : wp Try.prog (.again n vals) (L.set m C) H R := by
  show (L.set m C) n vals H
  unfold Hands.set; rw [if_neg hn]; exact h

/-- Rows of a length that does not change. -/
def arrC {α : Type} (n : Nat) (f : Nat → α) : List α := (List.range n).map f
theorem arrC_len {α : Type} (n : Nat) (f : Nat → α) : (arrC n f).length = n := by simp [arrC]
theorem arrC_get {α : Type} {n : Nat} {f : Nat → α} {i : Nat} (h : i < n) : (arrC n f)[i]? = some (f i) := by simp [arrC, h]
theorem arrC_set {α : Type} {n : Nat} {f : Nat → α} {i : Nat} {v : α} : (arrC n f).set i v = arrC n fun j => if j = i then v else f j := by
  apply List.ext_getElem?
  intro j
  rw [List.getElem?_set]
  by_cases hj : j < n
  · split
    · rename_i e; subst e; rw [arrC_len, if_pos hj, arrC_get hj, if_pos rfl]
    · rename_i e; rw [arrC_get hj, arrC_get hj, if_neg (fun h => e h.symm)]
  · have : ∀ g : Nat → α, (arrC n g)[j]? = none := fun g => by simp [arrC]; omega
    rw [this, this]
    split
    · rename_i e; rw [if_neg (by rw [arrC_len]; omega)]
    · rfl

/-- A cell of a row, by its number. -/
theorem w_ix {A : Ar} {t e u : TypeId} {n b o : Nat} {i : Int} {info : TypeInfo} {k : Addr → Tree} (hu : Try.prog.underlying t = some (.array n e)) (hi : Try.prog.info? e = some info) (hs : info.size = 1) (h0 : 0 ≤ i) (h1 : i < n) {H : Heap}
    (h : wp Try.prog (k ⟨b, o + i.toNat, none⟩) L H R) : wp Try.prog (.look (opS Try.prog (.indexAddr t (.tmp 0) (.tmp 1)) u [.pointer (some ⟨b, o, none⟩), .int .i64 i]) (.one (.leaf .addr)) k) L H R :=
  look_val (x := ⟨b, o + i.toNat, none⟩) (by
    rw [opS_idx hu hi h0 h1, Addr.add_mk, hs, Nat.mul_one]) h
theorem w_ixS {t e u : TypeId} {len cap b o : Nat} {i : Int} {info : TypeInfo} {k : Addr → Tree} (hu : Try.prog.underlying t = some (.slice e)) (hi : Try.prog.info? e = some info) (hs : info.size = 1) (h0 : 0 ≤ i) (h1 : i < (len : Int)) {H : Heap}
    (h : wp Try.prog (k ⟨b, o + i.toNat, none⟩) L H R) : wp Try.prog (.look (opS Try.prog (.indexAddr t (.tmp 0) (.tmp 1)) u [.slice (some ⟨b, o, none⟩) len cap, .int .i64 i]) (.one (.leaf .addr)) k) L H R :=
  look_val (x := ⟨b, o + i.toNat, none⟩) (by
    rw [opS_idxS hu hi h0 h1, Addr.add_mk, hs, Nat.mul_one]) h

theorem w_ldm {A : Ar} {I : List Nat} {a : Addr} {b n : Nat} {T : TypeId} {c : List Value} {lf : Leaf} {k : lf.T → Tree} {x : lf.T} (hA : Aw I A) (ok : Ok I G (keys l)) (ha : a = ⟨b, n, none⟩) (hi : (b, oc T c) ∈ l) (hx : (c[n]?).bind (Lf.dec lf) = some x)
    (h : wp Try.prog (k x) L (own A l G) R) : wp Try.prog (.ld a lf k) L (own A l G) R := by
  obtain ⟨i, hi⟩ := mem_idx hi
  exact w_ld i hA ok ha hi hx h

/-- An element of a slice of numbers. -/
theorem w_rdI {A : Ar} {I : List Nat} {s : Sl} {xs : List Int} {i : Int} {u : TypeId} {k : Int → Tree} (hA : Aw I A) (ok : Ok I G (keys l)) (hs : SlOf l ty_int eI s xs) (h0 : 0 ≤ i) (h1 : i < xs.length) (h : wp Try.prog (k (xs.getD i.toNat 0)) L (own A l G) R) :
    wp Try.prog (.look (opS Try.prog (.indexAddr ty_s_int (.tmp 0) (.tmp 1)) u [.slice s.a s.len s.cap, .int .i64 i]) (.one (.leaf .addr)) fun x => .ld x (.int .i64) k) L (own A l G) R := by
  rcases hs with ⟨rfl, rfl⟩ | ⟨b, rest, r, rfl, h2, h3⟩
  · have : (([] : List Int).length : Int) = 0 := rfl
    omega
  · refine w_ixS (e := ty_int) rfl rfl rfl h0 h1 ?_
    refine w_ldm (x := xs.getD i.toNat 0) hA ok rfl h3 ?_ h
    have hl : i.toNat < xs.length := by omega
    rw [Nat.zero_add, eI_all, List.getElem?_append_left (by simpa using hl), List.getElem?_map, List.getElem?_eq_getElem hl]
    show some _ = _
    rw [List.getD_eq_getElem?_getD, List.getElem?_eq_getElem hl]; rfl

theorem w_Place {H : Heap} {v n : Int} {k : Int → Tree} (hn : 0 < n) (hn2 : n ≤ 4611686018427387904) (h : wp Try.prog (k (v % n)) L H R) : wp Try.prog (.qcall f_magpielaw00_Place [.int .i64 v, .int .i64 n] (.one (.leaf (.int .i64))) k) L H R := wp_qcall_det (x := v % n) (Place_det v n hn hn2 _) h
theorem w_Raw5 {H : Heap} {w m : Int} {k : HL Sh1.T [(.agg [(.int .i64), (.int .i64), (.int .i64), (.int .i64), (.int .i64)]), (.leaf (.int .i64))] → Tree} (b1 : 0 ≤ w ∧ w ≤ 100000) (b2 : 0 ≤ m ∧ m ≤ 100000)
    (h : wp Try.prog (k (((plOf w m).work, (plOf w m).heads, (plOf w m).links, (plOf w m).gens, (plOf w m).carved, ()), 4 * w + 2 * ((m + 7) / 8) + 1, ())) L H R) :
    wp Try.prog (.call f_free_Raw [.int .i64 w, .int .i64 m] (.tup [(.agg [(.int .i64), (.int .i64), (.int .i64), (.int .i64), (.int .i64)]), (.leaf (.int .i64))]) k) L H R := by
  refine wp_call_det (x := (((plOf w m).work, (plOf w m).heads, (plOf w m).links, (plOf w m).gens, (plOf w m).carved, ()), 4 * w + 2 * ((m + 7) / 8) + 1, ())) (Raw5_det w m w m ?_ ?_ b1 b2 H) h
  · unfold imax; rw [if_neg (by omega)]
  · unfold imax; rw [if_neg (by omega)]

theorem later_aw {A : Ar} {I : List Nat} (hA : Aw I A) (n : Int) : Aw I (A.later n) := hA.of (later_alike A n) (later_wf hA.wf n)

/-- A list's bases. -/
theorem w_List {A : Ar} {I : List Nat} {p : Pl} {w c : Int} {xs : List Int} {k : Sl → Tree} (hA : Aw I A) (ok : Ok I G (keys l)) {hd : Int} (hh : headF p w c = hd) (ho : A.rawOk hd) (hc : chain A p.links (iand (A.rawF hd) 131071) xs) (hl : xs.length < 10000)
    (hlk : -1000000 ≤ p.links ∧ p.links ≤ 1000000) (hu : 0 ≤ A.uses ∧ A.uses ≤ 1000000000)
    (h : ∀ s tl, SlOf tl ty_int eI s xs → Ok I G (keys (l ++ tl)) → Aw I (A.later (1 + xs.length)) → wp Try.prog (k s) L (own (A.later (1 + xs.length)) (l ++ tl) G) R) :
    wp Try.prog (.call f_free_List [.pointer (aI I), p.val, .int .i64 w, .int .i64 c] (.one (.leaf .slice)) k) L (own A l G) R := by
  have hA' := later_aw hA (1 + xs.length)
  refine wp_call_of (SpecF.less (R' := fun v K => ∃ s tl, SlOf tl ty_int eI s xs ∧ Ok I G (keys (l ++ tl)) ∧ v = .slice s.a s.len s.cap ∧ K = own (A.later (1 + xs.length)) (l ++ tl) G) (List_spec hA.wf p w c hh ho hc hl hlk hu hA.pA (putL l G)) ?_) ?_
  · rintro v K ⟨s, G', rfl, rfl, hle, hs, hb⟩
    rcases hs with ⟨rfl, rfl⟩ | ⟨b, rest, rfl, hg⟩
    · refine ⟨own (A.later _) (l ++ []) G, ?_, ⟨none, 0, 0⟩, [], .inl ⟨rfl, rfl⟩, by rw [List.append_nil]; exact ok, rfl, rfl⟩
      rw [List.append_nil]
      exact Ar.put_le hle
    · obtain ⟨b1, b2⟩ := hb b rfl
      obtain ⟨b3, b4⟩ := putL_none b2
      have okb : Ok I G (keys ((b, oc ty_int (eI.all xs ++ rest.toList)) :: l)) := by
        refine ⟨?_, ?_, ?_⟩
        · simp only [keys, List.map_cons, List.nodup_cons]; exact ⟨b3, ok.nd⟩
        · intro x hx
          simp only [keys, List.map_cons, List.mem_cons] at hx
          rcases hx with rfl | hx
          · rw [hA.ids] at b1; exact b1
          · exact ok.out x hx
        · intro x hx
          simp only [keys, List.map_cons, List.mem_cons] at hx
          rcases hx with rfl | hx
          · exact b4
          · exact ok.no x hx
      have okb' : Ok I G (keys ((b, oc ty_int (eI.all xs ++ rest.toList)) :: (l ++ []))) := by rw [List.append_nil]; exact okb
      obtain ⟨m1, m2⟩ := own_mid (A := A.later (1 + xs.length)) okb'
      rw [List.append_nil] at m1
      refine ⟨own (A.later (1 + xs.length)) (l ++ [(b, oc ty_int (eI.all xs ++ rest.toList))]) G, ?_, ⟨some ⟨b, 0, none⟩, xs.length, xs.length + rest.size⟩, _, .inr ⟨b, rest.toList, rest.size, rfl, ?_, List.mem_cons_self⟩, m2, rfl, rfl⟩
      · rw [← m1]
        show (Ar.put _ ((putL l G).set b (oc ty_int (eI.all xs ++ rest.toList)))).le _
        refine Ar.put_le fun x o hx => ?_
        by_cases e : x = b
        · subst e
          rw [Heap.set_same] at hx
          rw [hg, ← hx, eI_all]
          unfold oc ints
          congr 2
          apply Array.ext'; simp
        · rw [Heap.set_ne _ _ e] at hx; exact hle x o hx
      · show _ = rest.size * 1
        simp
  · rintro v K ⟨s, tl, hs, ok', rfl, rfl⟩
    exact ⟨s, rfl, h s tl hs ok' hA'⟩
end
end Go.Proofs.Ytfphgiipekkgdaa

set_option linter.unusedVariables false
set_option maxRecDepth 20000
namespace Go.Proofs.Ytfphgiipekkgdaa
open Go Go.Fw

def slV (s : Sl) : Value := .slice s.a s.len s.cap
def sl0 : Sl := ⟨none, 0, 0⟩

/-- Several slices of numbers, each in a block of its own. -/
structure Fam (tl : Bl) (sl : Nat → Sl) (xs : Nat → List Int) : Prop where
  of : ∀ i, SlOf tl ty_int eI (sl i) (xs i)
  sep : ∀ i j, i ≠ j → ∀ a, (sl i).a = some a → (sl j).a ≠ some a

def updS {α : Type} (f : Nat → α) (i : Nat) (v : α) : Nat → α := fun j => if j = i then v else f j
theorem updS_same {α : Type} (f : Nat → α) (i : Nat) (v : α) : updS f i v i = v := if_pos rfl
theorem updS_ne {α : Type} (f : Nat → α) {i j : Nat} (v : α) (h : j ≠ i) : updS f i v j = f j := if_neg h

theorem SlOf.mem {α : Type} {l : Bl} {e : TypeId} {E : Enc α} {s : Sl} {xs : List α} (h : SlOf l e E s xs) {a : Addr} (ha : s.a = some a) : a.block ∈ keys l ∧ a = ⟨a.block, 0, none⟩ := by
  rcases h with ⟨rfl, _⟩ | ⟨b, rest, r, rfl, _, h3⟩
  · cases ha
  · cases ha; exact ⟨List.mem_map.2 ⟨_, h3, rfl⟩, rfl⟩

theorem Fam.nil (tl : Bl) : Fam tl (fun _ => sl0) (fun _ => []) := ⟨fun _ => .inl ⟨rfl, rfl⟩, fun _ _ _ a h => by cases h⟩

/-- What an append leaves of other rows. -/
structure Apd (tl : Bl) (s : Sl) (tl' : Bl) (s' : Sl) : Prop where
  keep : ∀ b o, (b, o) ∈ tl → (∀ a, s.a = some a → a.block ≠ b) → (b, o) ∈ tl'
  at' : s'.a = s.a ∨ ∀ a, s'.a = some a → a.block ∉ keys tl

theorem App.apd {tl tl' : Bl} {s s' : Sl} (h : App tl s tl' s') : Apd tl s tl' s' := by
  cases h with
  | same h1 h2 => subst h1; subst h2; exact ⟨fun b o h _ => h, .inl rfl⟩
  | inpl b o h1 h2 h3 h4 => subst h3; exact ⟨fun c p h k => mem_bset_ne h fun e => k _ h1 e.symm, .inl h2⟩
  | new b o h1 h2 h3 => subst h2; exact ⟨fun c p h _ => List.mem_cons_of_mem _ h, .inr fun a ha => by rw [h1] at ha; cases ha; exact h3⟩
theorem Apd.mono {tl tl' tl2 : Bl} {s s' : Sl} (h : Apd tl s tl' s') (hm : ∀ p, p ∈ tl' → p ∈ tl2) : Apd tl s tl2 s' := ⟨fun b o h1 h2 => hm _ (h.keep b o h1 h2), h.at'⟩

theorem SlOf.other {α : Type} {tl tl' : Bl} {e : TypeId} {E : Enc α} {s s' t : Sl} {xs : List α} (h : SlOf tl e E t xs) (ap : Apd tl s tl' s') (hne : ∀ a, t.a = some a → s.a ≠ some a) (hz : ∀ a, s.a = some a → a = ⟨a.block, 0, none⟩) : SlOf tl' e E t xs := by
  rcases h with h | ⟨b, rest, r, rfl, h2, h3⟩
  · exact .inl h
  · refine .inr ⟨b, rest, r, rfl, h2, ap.keep _ _ h3 fun a ha e => hne ⟨b, 0, none⟩ rfl ?_⟩
    rw [ha, hz a ha, e]

/-- One of them is longer. -/
theorem Fam.app {tl tl' : Bl} {sl : Nat → Sl} {xs : Nat → List Int} (F : Fam tl sl xs) {i : Nat} {s' : Sl} {ys : List Int} (hs : SlOf tl' ty_int eI s' ys) (ap : Apd tl (sl i) tl' s') : Fam tl' (updS sl i s') (updS xs i ys) := by
  have fr : ∀ j a, j ≠ i → s'.a = some a → (sl j).a ≠ some a := fun j a hj ha e => by
    rcases ap.at' with h | h
    · rw [h] at ha; exact F.sep i j (fun e => hj e.symm) a ha e
    · exact h a ha ((F.of j).mem e).1
  refine ⟨fun j => ?_, fun j k hn a ha => ?_⟩
  · unfold updS; split
    · exact hs
    · rename_i h
      exact (F.of j).other ap (fun a ha => F.sep j i h a ha) fun a ha => ((F.of i).mem ha).2
  · unfold updS at ha ⊢
    split at ha
    · rw [if_neg (by omega)]; exact fr k a (by omega) ha
    · split
      · exact fun e => fr j a (by omega) e ha
      · exact F.sep j k hn a ha

/-- One of them is shorter. -/
theorem Fam.take {tl : Bl} {sl : Nat → Sl} {xs : Nat → List Int} (F : Fam tl sl xs) (i : Nat) {n : Nat} (hn : n ≤ (xs i).length) : Fam tl (updS sl i ⟨(sl i).a, n, (sl i).cap⟩) (updS xs i ((xs i).take n)) := by
  refine ⟨fun j => ?_, fun j k hn a ha => ?_⟩
  · unfold updS; split
    · exact (F.of i).take hn
    · exact F.of j
  · unfold updS at ha ⊢
    split at ha
    · rename_i hj; rw [if_neg (by omega)]; exact F.sep i k (by omega) a ha
    · split
      · rename_i hk; exact F.sep j i (by omega) a ha
      · exact F.sep j k hn a ha

theorem Fam.mono {tl tl' : Bl} {sl : Nat → Sl} {xs : Nat → List Int} (F : Fam tl sl xs) (h : ∀ p, p ∈ tl → p ∈ tl') : Fam tl' sl xs := ⟨fun i => (F.of i).mono h, F.sep⟩

section
variable {L : Hands} {R : Value → Heap → Prop} {A : Ar} {I : List Nat} {l : Bl} {G : Heap}

/-- The upper end of a slice of numbers. -/
theorem w_cut {s : Sl} {n : Int} {u : TypeId} {k : Sl → Tree} (h0 : 0 ≤ n) (h1 : n ≤ (s.cap : Int)) {H : Heap} (h : wp Try.prog (k ⟨s.a, n.toNat, s.cap⟩) L H R) :
    wp Try.prog (.look (opS Try.prog (.slice ty_s_int (.tmp 0) none (some (.tmp 1)) none) u [.slice s.a s.len s.cap, .int .i64 n]) (.one (.leaf .slice)) k) L H R :=
  look_val (x := ⟨s.a, n.toNat, s.cap⟩) (opS_sliceHi (e := ty_int) rfl rfl rfl h0 h1) h

/-- One number more. -/
theorem w_app1 {s : Sl} {xs : List Int} {v : Int} {k : Sl → Tree} {pre tl : Bl} (hA : Aw I A) (ok : Ok I G (keys (pre ++ tl))) (hs : SlOf tl ty_int eI s xs) (hm : xs.length ≤ 1000000)
    (h : ∀ s' tl', SlOf tl' ty_int eI s' (xs ++ [v]) → Ok I G (keys (pre ++ tl')) → Apd tl s tl' s' → wp Try.prog (k s') L (own A (pre ++ tl') G) R) :
    wp Try.prog (.newS (.cells #[.int .i64 v] ty_int) 1 fun x => .act (opS Try.prog (.call { callee := .builtin .append, args := #[(.tmp 0), (.tmp 1)], argTypes := #[ty_s_int, ty_s_int] }) ty_s_int [(.slice s.a s.len s.cap), (.slice x.a x.len x.cap)]) (.one (.leaf .slice)) k) L (own A (pre ++ tl) G) R := by
  refine w_newS (c := [.int .i64 v]) hA ok fun q ok1 => ?_
  have ok' : Ok I G (keys (((q, oc ty_int [.int .i64 v]) :: pre) ++ tl)) := ok1
  show wp Try.prog _ L (own A (((q, oc ty_int [.int .i64 v]) :: pre) ++ tl) G) R
  refine w_appT (E := eI) elI (ys := [v]) (t := ⟨some ⟨q, 0, none⟩, 1, 1⟩) hA ok' hs ?_ rfl (by simp; omega) fun s' tl' hs' ok2 ap => ?_
  · exact cell_row hA ok' List.mem_cons_self 0 rfl
  · obtain ⟨m3, m4⟩ := own_mid (A := A) ok2
    show wp Try.prog _ L (own A ((q, oc ty_int [.int .i64 v]) :: (pre ++ tl')) G) R
    rw [m3]
    exact h s' _ (hs'.mono fun p hp => List.mem_cons_of_mem _ hp) m4 (ap.apd.mono fun p hp => List.mem_cons_of_mem _ hp)
end
end Go.Proofs.Ytfphgiipekkgdaa

set_option linter.unusedVariables false
namespace Go.Proofs.Ytfphgiipekkgdaa
open Go Go.Fw

theorem wl_bi {L : Hands} {H : Heap} {R : Value → Heap → Prop} {n : Nat} {init : List Value} {body : HL Sh1.T [.leaf .bool, .leaf (.int .i64)] → Tree} (I : Bool → Int → Heap → Prop) (m : Bool → Int → Nat) (x0 : Bool) (x1 : Int) (hi : I x0 x1 H)
    (hstep : ∀ (x0 : Bool) (x1 : Int) H', I x0 x1 H' → wp Try.prog (body (x0, x1, ())) (L.set n fun vals H'' => ∃ (y0 : Bool) (y1 : Int), vals = [.bool y0, .int .i64 y1] ∧ I y0 y1 H'' ∧ m y0 y1 < m x0 x1) H' R) (h0 : init = [.bool x0, .int .i64 x1] := by rfl) :
    wp Try.prog (.loop n [.leaf .bool, .leaf (.int .i64)] init body) L H R := by
  refine wp_loop_inv (fun x K => I x.1 x.2.1 K) (fun x _ => m x.1 x.2.1) (x0, x1, ()) h0 hi ?_
  rintro ⟨x0, x1, u⟩ K hI
  refine Go.Fw.wp_mono _ (hstep x0 x1 K hI) (fun k vals H'' hk => ?_) (fun _ _ h => h)
  unfold Hands.set at *
  split at hk
  · rename_i e; rw [if_pos e]; obtain ⟨y0, y1, h1, h2, h3⟩ := hk; exact ⟨(y0, y1, ()), h1, h2, h3⟩
  · rename_i e; rw [if_neg e]; exact hk
theorem wl_bii {L : Hands} {H : Heap} {R : Value → Heap → Prop} {n : Nat} {init : List Value} {body : HL Sh1.T [.leaf .bool, .leaf (.int .i64), .leaf (.int .i64)] → Tree} (I : Bool → Int → Int → Heap → Prop) (m : Bool → Int → Int → Nat) (x0 : Bool) (x1 : Int) (x2 : Int) (hi : I x0 x1 x2 H)
    (hstep : ∀ (x0 : Bool) (x1 : Int) (x2 : Int) H', I x0 x1 x2 H' → wp Try.prog (body (x0, x1, x2, ())) (L.set n fun vals H'' => ∃ (y0 : Bool) (y1 : Int) (y2 : Int), vals = [.bool y0, .int .i64 y1, .int .i64 y2] ∧ I y0 y1 y2 H'' ∧ m y0 y1 y2 < m x0 x1 x2) H' R) (h0 : init = [.bool x0, .int .i64 x1, .int .i64 x2] := by rfl) :
    wp Try.prog (.loop n [.leaf .bool, .leaf (.int .i64), .leaf (.int .i64)] init body) L H R := by
  refine wp_loop_inv (fun x K => I x.1 x.2.1 x.2.2.1 K) (fun x _ => m x.1 x.2.1 x.2.2.1) (x0, x1, x2, ()) h0 hi ?_
  rintro ⟨x0, x1, x2, u⟩ K hI
  refine Go.Fw.wp_mono _ (hstep x0 x1 x2 K hI) (fun k vals H'' hk => ?_) (fun _ _ h => h)
  unfold Hands.set at *
  split at hk
  · rename_i e; rw [if_pos e]; obtain ⟨y0, y1, y2, h1, h2, h3⟩ := hk; exact ⟨(y0, y1, y2, ()), h1, h2, h3⟩
  · rename_i e; rw [if_neg e]; exact hk
theorem wl_biii {L : Hands} {H : Heap} {R : Value → Heap → Prop} {n : Nat} {init : List Value} {body : HL Sh1.T [.leaf .bool, .leaf (.int .i64), .leaf (.int .i64), .leaf (.int .i64)] → Tree} (I : Bool → Int → Int → Int → Heap → Prop) (m : Bool → Int → Int → Int → Nat) (x0 : Bool) (x1 : Int) (x2 : Int) (x3 : Int) (hi : I x0 x1 x2 x3 H)
    (hstep : ∀ (x0 : Bool) (x1 : Int) (x2 : Int) (x3 : Int) H', I x0 x1 x2 x3 H' → wp Try.prog (body (x0, x1, x2, x3, ())) (L.set n fun vals H'' => ∃ (y0 : Bool) (y1 : Int) (y2 : Int) (y3 : Int), vals = [.bool y0, .int .i64 y1, .int .i64 y2, .int .i64 y3] ∧ I y0 y1 y2 y3 H'' ∧ m y0 y1 y2 y3 < m x0 x1 x2 x3) H' R) (h0 : init = [.bool x0, .int .i64 x1, .int .i64 x2, .int .i64 x3] := by rfl) :
    wp Try.prog (.loop n [.leaf .bool, .leaf (.int .i64), .leaf (.int .i64), .leaf (.int .i64)] init body) L H R := by
  refine wp_loop_inv (fun x K => I x.1 x.2.1 x.2.2.1 x.2.2.2.1 K) (fun x _ => m x.1 x.2.1 x.2.2.1 x.2.2.2.1) (x0, x1, x2, x3, ()) h0 hi ?_
  rintro ⟨x0, x1, x2, x3, u⟩ K hI
  refine Go.Fw.wp_mono _ (hstep x0 x1 x2 x3 K hI) (fun k vals H'' hk => ?_) (fun _ _ h => h)
  unfold Hands.set at *
  split at hk
  · rename_i e; rw [if_pos e]; obtain ⟨y0, y1, y2, y3, h1, h2, h3⟩ := hk; exact ⟨(y0, y1, y2, y3, ()), h1, h2, h3⟩
  · rename_i e; rw [if_neg e]; exact hk
theorem wl_bsi {L : Hands} {H : Heap} {R : Value → Heap → Prop} {n : Nat} {init : List Value} {body : HL Sh1.T [.leaf .bool, .leaf .slice, .leaf (.int .i64)] → Tree} (I : Bool → Sl → Int → Heap → Prop) (m : Bool → Sl → Int → Nat) (x0 : Bool) (x1 : Sl) (x2 : Int) (hi : I x0 x1 x2 H)
    (hstep : ∀ (x0 : Bool) (x1 : Sl) (x2 : Int) H', I x0 x1 x2 H' → wp Try.prog (body (x0, x1, x2, ())) (L.set n fun vals H'' => ∃ (y0 : Bool) (y1 : Sl) (y2 : Int), vals = [.bool y0, .slice y1.a y1.len y1.cap, .int .i64 y2] ∧ I y0 y1 y2 H'' ∧ m y0 y1 y2 < m x0 x1 x2) H' R) (h0 : init = [.bool x0, .slice x1.a x1.len x1.cap, .int .i64 x2] := by rfl) :
    wp Try.prog (.loop n [.leaf .bool, .leaf .slice, .leaf (.int .i64)] init body) L H R := by
  refine wp_loop_inv (fun x K => I x.1 x.2.1 x.2.2.1 K) (fun x _ => m x.1 x.2.1 x.2.2.1) (x0, x1, x2, ()) h0 hi ?_
  rintro ⟨x0, x1, x2, u⟩ K hI
  refine Go.Fw.wp_mono _ (hstep x0 x1 x2 K hI) (fun k vals H'' hk => ?_) (fun _ _ h => h)
  unfold Hands.set at *
  split at hk
  · rename_i e; rw [if_pos e]; obtain ⟨y0, y1, y2, h1, h2, h3⟩ := hk; exact ⟨(y0, y1, y2, ()), h1, h2, h3⟩
  · rename_i e; rw [if_neg e]; exact hk
theorem wl_bsii {L : Hands} {H : Heap} {R : Value → Heap → Prop} {n : Nat} {init : List Value} {body : HL Sh1.T [.leaf .bool, .leaf .slice, .leaf (.int .i64), .leaf (.int .i64)] → Tree} (I : Bool → Sl → Int → Int → Heap → Prop) (m : Bool → Sl → Int → Int → Nat) (x0 : Bool) (x1 : Sl) (x2 : Int) (x3 : Int) (hi : I x0 x1 x2 x3 H)
    (hstep : ∀ (x0 : Bool) (x1 : Sl) (x2 : Int) (x3 : Int) H', I x0 x1 x2 x3 H' → wp Try.prog (body (x0, x1, x2, x3, ())) (L.set n fun vals H'' => ∃ (y0 : Bool) (y1 : Sl) (y2 : Int) (y3 : Int), vals = [.bool y0, .slice y1.a y1.len y1.cap, .int .i64 y2, .int .i64 y3] ∧ I y0 y1 y2 y3 H'' ∧ m y0 y1 y2 y3 < m x0 x1 x2 x3) H' R) (h0 : init = [.bool x0, .slice x1.a x1.len x1.cap, .int .i64 x2, .int .i64 x3] := by rfl) :
    wp Try.prog (.loop n [.leaf .bool, .leaf .slice, .leaf (.int .i64), .leaf (.int .i64)] init body) L H R := by
  refine wp_loop_inv (fun x K => I x.1 x.2.1 x.2.2.1 x.2.2.2.1 K) (fun x _ => m x.1 x.2.1 x.2.2.1 x.2.2.2.1) (x0, x1, x2, x3, ()) h0 hi ?_
  rintro ⟨x0, x1, x2, x3, u⟩ K hI
  refine Go.Fw.wp_mono _ (hstep x0 x1 x2 x3 K hI) (fun k vals H'' hk => ?_) (fun _ _ h => h)
  unfold Hands.set at *
  split at hk
  · rename_i e; rw [if_pos e]; obtain ⟨y0, y1, y2, y3, h1, h2, h3⟩ := hk; exact ⟨(y0, y1, y2, y3, ()), h1, h2, h3⟩
  · rename_i e; rw [if_neg e]; exact hk
theorem wl_bsiii {L : Hands} {H : Heap} {R : Value → Heap → Prop} {n : Nat} {init : List Value} {body : HL Sh1.T [.leaf .bool, .leaf .slice, .leaf (.int .i64), .leaf (.int .i64), .leaf (.int .i64)] → Tree} (I : Bool → Sl → Int → Int → Int → Heap → Prop) (m : Bool → Sl → Int → Int → Int → Nat) (x0 : Bool) (x1 : Sl) (x2 : Int) (x3 : Int) (x4 : Int) (hi : I x0 x1 x2 x3 x4 H)
    (hstep : ∀ (x0 : Bool) (x1 : Sl) (x2 : Int) (x3 : Int) (x4 : Int) H', I x0 x1 x2 x3 x4 H' → wp Try.prog (body (x0, x1, x2, x3, x4, ())) (L.set n fun vals H'' => ∃ (y0 : Bool) (y1 : Sl) (y2 : Int) (y3 : Int) (y4 : Int), vals = [.bool y0, .slice y1.a y1.len y1.cap, .int .i64 y2, .int .i64 y3, .int .i64 y4] ∧ I y0 y1 y2 y3 y4 H'' ∧ m y0 y1 y2 y3 y4 < m x0 x1 x2 x3 x4) H' R) (h0 : init = [.bool x0, .slice x1.a x1.len x1.cap, .int .i64 x2, .int .i64 x3, .int .i64 x4] := by rfl) :
    wp Try.prog (.loop n [.leaf .bool, .leaf .slice, .leaf (.int .i64), .leaf (.int .i64), .leaf (.int .i64)] init body) L H R := by
  refine wp_loop_inv (fun x K => I x.1 x.2.1 x.2.2.1 x.2.2.2.1 x.2.2.2.2.1 K) (fun x _ => m x.1 x.2.1 x.2.2.1 x.2.2.2.1 x.2.2.2.2.1) (x0, x1, x2, x3, x4, ()) h0 hi ?_
  rintro ⟨x0, x1, x2, x3, x4, u⟩ K hI
  refine Go.Fw.wp_mono _ (hstep x0 x1 x2 x3 x4 K hI) (fun k vals H'' hk => ?_) (fun _ _ h => h)
  unfold Hands.set at *
  split at hk
  · rename_i e; rw [if_pos e]; obtain ⟨y0, y1, y2, y3, y4, h1, h2, h3⟩ := hk; exact ⟨(y0, y1, y2, y3, y4, ()), h1, h2, h3⟩
  · rename_i e; rw [if_neg e]; exact hk
theorem wl_bssi {L : Hands} {H : Heap} {R : Value → Heap → Prop} {n : Nat} {init : List Value} {body : HL Sh1.T [.leaf .bool, .leaf .slice, .leaf .slice, .leaf (.int .i64)] → Tree} (I : Bool → Sl → Sl → Int → Heap → Prop) (m : Bool → Sl → Sl → Int → Nat) (x0 : Bool) (x1 : Sl) (x2 : Sl) (x3 : Int) (hi : I x0 x1 x2 x3 H)
    (hstep : ∀ (x0 : Bool) (x1 : Sl) (x2 : Sl) (x3 : Int) H', I x0 x1 x2 x3 H' → wp Try.prog (body (x0, x1, x2, x3, ())) (L.set n fun vals H'' => ∃ (y0 : Bool) (y1 : Sl) (y2 : Sl) (y3 : Int), vals = [.bool y0, .slice y1.a y1.len y1.cap, .slice y2.a y2.len y2.cap, .int .i64 y3] ∧ I y0 y1 y2 y3 H'' ∧ m y0 y1 y2 y3 < m x0 x1 x2 x3) H' R) (h0 : init = [.bool x0, .slice x1.a x1.len x1.cap, .slice x2.a x2.len x2.cap, .int .i64 x3] := by rfl) :
    wp Try.prog (.loop n [.leaf .bool, .leaf .slice, .leaf .slice, .leaf (.int .i64)] init body) L H R := by
  refine wp_loop_inv (fun x K => I x.1 x.2.1 x.2.2.1 x.2.2.2.1 K) (fun x _ => m x.1 x.2.1 x.2.2.1 x.2.2.2.1) (x0, x1, x2, x3, ()) h0 hi ?_
  rintro ⟨x0, x1, x2, x3, u⟩ K hI
  refine Go.Fw.wp_mono _ (hstep x0 x1 x2 x3 K hI) (fun k vals H'' hk => ?_) (fun _ _ h => h)
  unfold Hands.set at *
  split at hk
  · rename_i e; rw [if_pos e]; obtain ⟨y0, y1, y2, y3, h1, h2, h3⟩ := hk; exact ⟨(y0, y1, y2, y3, ()), h1, h2, h3⟩
  · rename_i e; rw [if_neg e]; exact hk
theorem wl_i {L : Hands} {H : Heap} {R : Value → Heap → Prop} {n : Nat} {init : List Value} {body : HL Sh1.T [.leaf (.int .i64)] → Tree} (I : Int → Heap → Prop) (m : Int → Nat) (x0 : Int) (hi : I x0 H)
    (hstep : ∀ (x0 : Int) H', I x0 H' → wp Try.prog (body (x0, ())) (L.set n fun vals H'' => ∃ (y0 : Int), vals = [.int .i64 y0] ∧ I y0 H'' ∧ m y0 < m x0) H' R) (h0 : init = [.int .i64 x0] := by rfl) :
    wp Try.prog (.loop n [.leaf (.int .i64)] init body) L H R := by
  refine wp_loop_inv (fun x K => I x.1 K) (fun x _ => m x.1) (x0, ()) h0 hi ?_
  rintro ⟨x0, u⟩ K hI
  refine Go.Fw.wp_mono _ (hstep x0 K hI) (fun k vals H'' hk => ?_) (fun _ _ h => h)
  unfold Hands.set at *
  split at hk
  · rename_i e; rw [if_pos e]; obtain ⟨y0, h1, h2, h3⟩ := hk; exact ⟨(y0, ()), h1, h2, h3⟩
  · rename_i e; rw [if_neg e]; exact hk
theorem wl_ii {L : Hands} {H : Heap} {R : Value → Heap → Prop} {n : Nat} {init : List Value} {body : HL Sh1.T [.leaf (.int .i64), .leaf (.int .i64)] → Tree} (I : Int → Int → Heap → Prop) (m : Int → Int → Nat) (x0 : Int) (x1 : Int) (hi : I x0 x1 H)
    (hstep : ∀ (x0 : Int) (x1 : Int) H', I x0 x1 H' → wp Try.prog (body (x0, x1, ())) (L.set n fun vals H'' => ∃ (y0 : Int) (y1 : Int), vals = [.int .i64 y0, .int .i64 y1] ∧ I y0 y1 H'' ∧ m y0 y1 < m x0 x1) H' R) (h0 : init = [.int .i64 x0, .int .i64 x1] := by rfl) :
    wp Try.prog (.loop n [.leaf (.int .i64), .leaf (.int .i64)] init body) L H R := by
  refine wp_loop_inv (fun x K => I x.1 x.2.1 K) (fun x _ => m x.1 x.2.1) (x0, x1, ()) h0 hi ?_
  rintro ⟨x0, x1, u⟩ K hI
  refine Go.Fw.wp_mono _ (hstep x0 x1 K hI) (fun k vals H'' hk => ?_) (fun _ _ h => h)
  unfold Hands.set at *
  split at hk
  · rename_i e; rw [if_pos e]; obtain ⟨y0, y1, h1, h2, h3⟩ := hk; exact ⟨(y0, y1, ()), h1, h2, h3⟩
  · rename_i e; rw [if_neg e]; exact hk
theorem wl_si {L : Hands} {H : Heap} {R : Value → Heap → Prop} {n : Nat} {init : List Value} {body : HL Sh1.T [.leaf .slice, .leaf (.int .i64)] → Tree} (I : Sl → Int → Heap → Prop) (m : Sl → Int → Nat) (x0 : Sl) (x1 : Int) (hi : I x0 x1 H)
    (hstep : ∀ (x0 : Sl) (x1 : Int) H', I x0 x1 H' → wp Try.prog (body (x0, x1, ())) (L.set n fun vals H'' => ∃ (y0 : Sl) (y1 : Int), vals = [.slice y0.a y0.len y0.cap, .int .i64 y1] ∧ I y0 y1 H'' ∧ m y0 y1 < m x0 x1) H' R) (h0 : init = [.slice x0.a x0.len x0.cap, .int .i64 x1] := by rfl) :
    wp Try.prog (.loop n [.leaf .slice, .leaf (.int .i64)] init body) L H R := by
  refine wp_loop_inv (fun x K => I x.1 x.2.1 K) (fun x _ => m x.1 x.2.1) (x0, x1, ()) h0 hi ?_
  rintro ⟨x0, x1, u⟩ K hI
  refine Go.Fw.wp_mono _ (hstep x0 x1 K hI) (fun k vals H'' hk => ?_) (fun _ _ h => h)
  unfold Hands.set at *
  split at hk
  · rename_i e; rw [if_pos e]; obtain ⟨y0, y1, h1, h2, h3⟩ := hk; exact ⟨(y0, y1, ()), h1, h2, h3⟩
  · rename_i e; rw [if_neg e]; exact hk
theorem wl_pssi {L : Hands} {H : Heap} {R : Value → Heap → Prop} {n : Nat} {init : List Value} {body : HL Sh1.T [.leaf .ptr, .leaf .slice, .leaf .slice, .leaf (.int .i64)] → Tree} (I : Option Addr → Sl → Sl → Int → Heap → Prop) (m : Option Addr → Sl → Sl → Int → Nat) (x0 : Option Addr) (x1 : Sl) (x2 : Sl) (x3 : Int) (hi : I x0 x1 x2 x3 H)
    (hstep : ∀ (x0 : Option Addr) (x1 : Sl) (x2 : Sl) (x3 : Int) H', I x0 x1 x2 x3 H' → wp Try.prog (body (x0, x1, x2, x3, ())) (L.set n fun vals H'' => ∃ (y0 : Option Addr) (y1 : Sl) (y2 : Sl) (y3 : Int), vals = [.pointer y0, .slice y1.a y1.len y1.cap, .slice y2.a y2.len y2.cap, .int .i64 y3] ∧ I y0 y1 y2 y3 H'' ∧ m y0 y1 y2 y3 < m x0 x1 x2 x3) H' R) (h0 : init = [.pointer x0, .slice x1.a x1.len x1.cap, .slice x2.a x2.len x2.cap, .int .i64 x3] := by rfl) :
    wp Try.prog (.loop n [.leaf .ptr, .leaf .slice, .leaf .slice, .leaf (.int .i64)] init body) L H R := by
  refine wp_loop_inv (fun x K => I x.1 x.2.1 x.2.2.1 x.2.2.2.1 K) (fun x _ => m x.1 x.2.1 x.2.2.1 x.2.2.2.1) (x0, x1, x2, x3, ()) h0 hi ?_
  rintro ⟨x0, x1, x2, x3, u⟩ K hI
  refine Go.Fw.wp_mono _ (hstep x0 x1 x2 x3 K hI) (fun k vals H'' hk => ?_) (fun _ _ h => h)
  unfold Hands.set at *
  split at hk
  · rename_i e; rw [if_pos e]; obtain ⟨y0, y1, y2, y3, h1, h2, h3⟩ := hk; exact ⟨(y0, y1, y2, y3, ()), h1, h2, h3⟩
  · rename_i e; rw [if_neg e]; exact hk
end Go.Proofs.Ytfphgiipekkgdaa

set_option linter.unusedVariables false
set_option maxRecDepth 20000
namespace Go.Proofs.Ytfphgiipekkgdaa
open Go Go.Fw

theorem opS_nilapp {sT u : TypeId} (x : Value) : opS Try.prog (.call { callee := .builtin .append, args := #[(.const (.slice none 0 0)), (.tmp 0)], argTypes := #[sT, sT] }) u [x] =
    opS Try.prog (.call { callee := .builtin .append, args := #[(.tmp 0), (.tmp 1)], argTypes := #[sT, sT] }) u [.slice none 0 0, x] := by
  kernel_rfl

def loSl (s : Sl) (n : Nat) : Sl := ⟨if s.cap = n then s.a else s.a.map (·.add n), s.len - n, s.cap - n⟩

section
variable {L : Hands} {R : Value → Heap → Prop} {A : Ar} {I : List Nat} {l : Bl} {G : Heap}

theorem w_cutLo {s : Sl} {n : Int} {u : TypeId} {k : Sl → Tree} (h0 : 0 ≤ n) (h1 : n ≤ (s.len : Int)) {H : Heap} (h : wp Try.prog (k (loSl s n.toNat)) L H R) :
    wp Try.prog (.look (opS Try.prog (.slice ty_s_int (.tmp 0) (some (.tmp 1)) none none) u [.slice s.a s.len s.cap, .int .i64 n]) (.one (.leaf .slice)) k) L H R :=
  look_val (x := loSl s n.toNat) (opS_sliceLo (e := ty_int) rfl rfl rfl h0 h1) h
theorem ck_cutLo {s : Sl} {n : Int} {u : TypeId} {t : Tree} (h0 : 0 ≤ n) (h1 : n ≤ (s.len : Int)) {H : Heap} (h : wp Try.prog t L H R) :
    wp Try.prog (.check (opS Try.prog (.slice ty_s_int (.tmp 0) (some (.tmp 1)) none none) u [.slice s.a s.len s.cap, .int .i64 n]) (.slice (loSl s n.toNat).a (loSl s n.toNat).len (loSl s n.toNat).cap) t) L H R :=
  check_val (opS_sliceLo (e := ty_int) rfl rfl rfl h0 h1) h
theorem ck_cut {s : Sl} {n : Int} {u : TypeId} {t : Tree} (h0 : 0 ≤ n) (h1 : n ≤ (s.cap : Int)) {H : Heap} (h : wp Try.prog t L H R) :
    wp Try.prog (.check (opS Try.prog (.slice ty_s_int (.tmp 0) none (some (.tmp 1)) none) u [.slice s.a s.len s.cap, .int .i64 n]) (.slice s.a n.toNat s.cap) t) L H R :=
  check_val (opS_sliceHi (e := ty_int) rfl rfl rfl h0 h1) h

theorem SlOf.rowLo {s : Sl} {xs : List Int} (hA : Aw I A) (ok : Ok I G (keys l)) (h : SlOf l ty_int eI s xs) {n : Nat} (hn : n ≤ xs.length) : Row (own A l G) (loSl s n).a (eI.all (xs.drop n)) ∧ (loSl s n).len = (xs.drop n).length := by
  have hl := h.len
  refine ⟨?_, by show s.len - n = _; rw [hl, List.length_drop]⟩
  by_cases e : s.cap = n
  · have : xs.drop n = [] := by
      apply List.drop_eq_nil_of_le
      rcases h with ⟨rfl, rfl⟩ | ⟨b, rest, r, rfl, _⟩
      · simp
      · have e : xs.length + r = n := e
        omega
    rw [this]; intro i hi; simp [Enc.all] at hi
  · unfold loSl
    dsimp only
    rw [if_neg e]
    rcases h with ⟨rfl, rfl⟩ | ⟨b, rest, r, rfl, h2, h3⟩
    · intro i hi; simp [Enc.all] at hi
    · have hs : SlOf l ty_int eI ⟨some ⟨b, 0, none⟩, xs.length, xs.length + r⟩ xs := .inr ⟨b, rest, r, rfl, h2, h3⟩
      have := hs.rowFrom hA ok n hn
      show Row _ (some ((Addr.mk b 0 none).add n)) _
      rw [Addr.add_mk, Nat.zero_add]
      have e1 : n * eI.sz = n := Nat.mul_one n
      rw [e1] at this; exact this

/-- Append to nothing. -/
theorem w_appN {u : TypeId} {ys : List Int} {t : Sl} {k : Sl → Tree} {pre tl : Bl} (hA : Aw I A) (ok : Ok I G (keys (pre ++ tl))) (ht : Row (own A (pre ++ tl) G) t.a (eI.all ys)) (htl : t.len = ys.length) (hm : ys.length ≤ 1000000)
    (h : ∀ s' tl', SlOf tl' ty_int eI s' ys → Ok I G (keys (pre ++ tl')) → Apd tl sl0 tl' s' → wp Try.prog (k s') L (own A (pre ++ tl') G) R) :
    wp Try.prog (.act (opS Try.prog (.call { callee := .builtin .append, args := #[(.const (.slice none 0 0)), (.tmp 0)], argTypes := #[ty_s_int, ty_s_int] }) u [(.slice t.a t.len t.cap)]) (.one (.leaf .slice)) k) L (own A (pre ++ tl) G) R := by
  rw [opS_nilapp]
  refine w_appT (E := eI) elI (s := sl0) (xs := []) hA ok (.inl ⟨rfl, rfl⟩) ht htl (by simp; omega) fun s' tl' hs' ok' ap => ?_
  exact h s' tl' hs' ok' ap.apd

/-- Append of some numbers. -/
theorem w_appI {u : TypeId} {xs ys : List Int} {s t : Sl} {k : Sl → Tree} {pre tl : Bl} (hA : Aw I A) (ok : Ok I G (keys (pre ++ tl))) (hs : SlOf tl ty_int eI s xs) (ht : Row (own A (pre ++ tl) G) t.a (eI.all ys)) (htl : t.len = ys.length) (hm : xs.length + ys.length ≤ 1000000)
    (h : ∀ s' tl', SlOf tl' ty_int eI s' (xs ++ ys) → Ok I G (keys (pre ++ tl')) → Apd tl s tl' s' → wp Try.prog (k s') L (own A (pre ++ tl') G) R) :
    wp Try.prog (.act (opS Try.prog (.call { callee := .builtin .append, args := #[(.tmp 0), (.tmp 1)], argTypes := #[ty_s_int, ty_s_int] }) u [(.slice s.a s.len s.cap), (.slice t.a t.len t.cap)]) (.one (.leaf .slice)) k) L (own A (pre ++ tl) G) R :=
  w_appT (E := eI) elI hA ok hs ht htl (by omega) fun s' tl' hs' ok' ap => h s' tl' hs' ok' ap.apd

theorem Apd.none {tl tl' : Bl} {s' : Sl} (h : Apd tl sl0 tl' s') : ∀ p, p ∈ tl → p ∈ tl' := fun p hp => h.keep p.1 p.2 hp fun a ha => by cases ha

/-- A slice without its k-th number, in a new row. -/
theorem w_remove {xs : List Int} {s : Sl} {n : Int} {k : Sl → Tree} {pre tl : Bl} (hA : Aw I A) (ok : Ok I G (keys (pre ++ tl))) (hs : SlOf tl ty_int eI s xs) (h0 : 0 ≤ n) (h1 : n < xs.length) (hm : xs.length ≤ 100000)
    (h : ∀ s' tl', SlOf tl' ty_int eI s' (xs.take n.toNat ++ xs.drop (n.toNat + 1)) → Ok I G (keys (pre ++ tl')) → (∀ p, p ∈ tl → p ∈ tl') → (∀ a, s'.a = some a → a.block ∉ keys tl) → wp Try.prog (k s') L (own A (pre ++ tl') G) R) :
    wp Try.prog (.look (opS Try.prog (.slice ty_s_int (.tmp 0) none (some (.tmp 1)) none) ty_s_int [(.slice s.a s.len s.cap), (.int .i64 n)]) (.one (.leaf .slice)) fun x113 =>
      .look (opS Try.prog (.slice ty_s_int (.tmp 0) (some (.tmp 1)) none none) ty_s_int [(.slice s.a s.len s.cap), (.int .i64 (w64 (n + 1)))]) (.one (.leaf .slice)) fun x118 =>
      .act (opS Try.prog (.call { callee := .builtin .append, args := #[(.const (.slice none 0 0)), (.tmp 0)], argTypes := #[ty_s_int, ty_s_int] }) ty_s_int [(.slice x113.a x113.len x113.cap)]) (.one (.leaf .slice)) fun x114 =>
      .check (opS Try.prog (.slice ty_s_int (.tmp 0) (some (.tmp 1)) none none) ty_s_int [(.slice s.a s.len s.cap), (.int .i64 (w64 (n + 1)))]) (.slice x118.a x118.len x118.cap) <|
      .act (opS Try.prog (.call { callee := .builtin .append, args := #[(.tmp 0), (.tmp 1)], argTypes := #[ty_s_int, ty_s_int] }) ty_s_int [(.slice x114.a x114.len x114.cap), (.slice x118.a x118.len x118.cap)]) (.one (.leaf .slice)) k) L (own A (pre ++ tl) G) R := by
  have hl := hs.len
  have hc : (s.len : Int) ≤ s.cap := by
    rcases hs with ⟨rfl, _⟩ | ⟨b, rest, r, rfl, _⟩
    · exact Int.le_refl _
    · show ((xs.length : Nat) : Int) ≤ ((xs.length + r : Nat) : Int); omega
  have e1 : w64 (n + 1) = n + 1 := w64_in (by omega) (by omega)
  have e2 : (n + 1).toNat = n.toNat + 1 := by omega
  rw [e1]
  refine w_cut h0 (by omega) (w_cutLo (by omega) (by omega) ?_)
  refine w_appN (t := ⟨s.a, n.toNat, s.cap⟩) (ys := xs.take n.toNat) hA ok ?_ (by rw [List.length_take]; show n.toNat = _; omega) (by rw [List.length_take]; omega) fun s1 tl1 hs1 ok1 ap1 => ?_
  · exact (hs.take (n := n.toNat) (by omega)).mono (l' := pre ++ tl) (fun p hp => List.mem_append_right _ hp) |>.row hA ok
  refine ck_cutLo (by omega) (by omega) ?_
  have hsk : SlOf (pre ++ tl1) ty_int eI s xs := hs.mono fun p hp => List.mem_append_right _ (ap1.none p hp)
  obtain ⟨r1, r2⟩ := hsk.rowLo hA ok1 (n := (n + 1).toNat) (by omega)
  refine w_appI (ys := xs.drop (n + 1).toNat) hA ok1 hs1 r1 r2 (by rw [List.length_take, List.length_drop]; omega) fun s2 tl2 hs2 ok2 ap2 => ?_
  rw [e2] at hs2
  have n1 : ∀ a, s1.a = some a → a.block ∉ keys tl := fun a ha => by
    rcases ap1.at' with h | h
    · rw [h] at ha; cases ha
    · exact h a ha
  refine h s2 tl2 hs2 ok2 (fun p hp => ap2.keep p.1 p.2 (ap1.none p hp) fun a ha e => n1 a ha ?_) fun a ha => ?_
  · rw [e]; exact List.mem_map.2 ⟨p, hp, rfl⟩
  · rcases ap2.at' with h | h
    · rw [h] at ha; exact n1 a ha
    · intro hm
      obtain ⟨p, hp, e⟩ := List.mem_map.1 hm
      exact h a ha (List.mem_map.2 ⟨p, ap1.none p hp, e⟩)
end
end Go.Proofs.Ytfphgiipekkgdaa

set_option linter.unusedVariables false
set_option maxRecDepth 20000
namespace Go.Proofs.Ytfphgiipekkgdaa
open Go Go.Fw

/-- A machine whose rows lie among other blocks: rep tells how. -/
structure MchR (M J : Type) where
  f : FuncId
  addr : J → Nat
  bl : M → J → Bl
  rep : M → J → Prop
  inv : M → Ar → Prop
  step : M → Ar → M × Ar
  fin : M → Bool

def MchR.ok {M J : Type} (X : MchR M J) : Prop := ∀ (I : List Nat) (A : Ar) (G : Heap) (m : M) (j : J), Aw I A → Ok I G (keys (X.bl m j)) → X.rep m j → X.inv m A →
  SpecF Try.prog X.f #[.pointer (some ⟨X.addr j, 0, none⟩), .pointer (aI I)] (own A (X.bl m j) G) fun v K => ∃ j', v = .bool (X.fin (X.step m A).1) ∧ K = own (X.step m A).2 (X.bl (X.step m A).1 j') G ∧ X.addr j' = X.addr j ∧
    Ok I G (keys (X.bl (X.step m A).1 j')) ∧ X.rep (X.step m A).1 j' ∧ Aw I (X.step m A).2

/-- Alone, to the end. -/
inductive MchR.Runs {M J : Type} (X : MchR M J) : Nat → M → Ar → M → Ar → Prop
  | one {x : M} {D : Ar} {x1 : M} {D1 : Ar} : X.inv x D → X.step x D = (x1, D1) → D1.uses ≤ w64 (D.uses + 1) → X.fin x1 = true → Runs X 1 x D x1 D1
  | more {n : Nat} {x : M} {D : Ar} {x1 : M} {D1 : Ar} {x' : M} {D' : Ar} : X.inv x D → X.step x D = (x1, D1) → D1.uses ≤ w64 (D.uses + 1) → X.fin x1 = false → Runs X n x1 D1 x' D' → Runs X (n + 1) x D x' D'

def MchR.inv' {M J : Type} (X : MchR M J) (t : TypeId) : Prop := ∀ (q : Nat) (p : Option Addr), opS Try.prog (.call { callee := .invoke (.tmp 0) "Step", args := #[(.tmp 1)], argTypes := #[ty_p_arena_Arena] }) ty_bool [(.iface t (.pointer (some ⟨q, 0, none⟩))), (.pointer p)] =
    .pure (.enter X.f [.pointer (some ⟨q, 0, none⟩), .pointer p].toArray)

/-- Steps that do not end. -/
inductive MchR.Path {M J : Type} (X : MchR M J) : Nat → M → Ar → M → Ar → Prop
  | nil {x : M} {D : Ar} : Path X 0 x D x D
  | cons {n : Nat} {x : M} {D : Ar} {x1 : M} {D1 : Ar} {x' : M} {D' : Ar} : X.inv x D → X.step x D = (x1, D1) → D1.uses ≤ w64 (D.uses + 1) → X.fin x1 = false → Path X n x1 D1 x' D' → Path X (n + 1) x D x' D'
theorem MchR.Path.trans {M J : Type} {X : MchR M J} {k n : Nat} {m m1 m2 : M} {A A1 A2 : Ar} (h : X.Path k m A m1 A1) (g : X.Path n m1 A1 m2 A2) : X.Path (k + n) m A m2 A2 := by
  induction h with
  | nil => rw [Nat.zero_add]; exact g
  | @cons k m A m1 A1 m' A' h1 h2 h3 h4 _ ih =>
    have := ih g
    rw [show k + 1 + n = k + n + 1 by omega]
    exact .cons h1 h2 h3 h4 this
theorem MchR.Path.run {M J : Type} {X : MchR M J} {k n : Nat} {m m1 m2 : M} {A A1 A2 : Ar} (h : X.Path k m A m1 A1) (g : X.Runs n m1 A1 m2 A2) : X.Runs (k + n) m A m2 A2 := by
  induction h with
  | nil => rw [Nat.zero_add]; exact g
  | @cons k m A m1 A1 m' A' h1 h2 h3 h4 _ ih =>
    have := ih g
    rw [show k + 1 + n = k + n + 1 by omega]
    exact .more h1 h2 h3 h4 this

theorem w_makeR {L : Hands} {R : Value → Heap → Prop} {A : Ar} {I : List Nat} {l : Bl} {G : Heap} {f : FuncId} {args : List Value} {sh : Sh} {k : sh.T → Tree} {J : Type} {bl : J → Bl} {val : J → sh.T} {rep : J → Prop}
    (h : SpecF Try.prog f args.toArray (own A [] (putL l G)) fun v K => ∃ j, v = sh.toVal (val j) ∧ K = own A (bl j) (putL l G) ∧ Ok I (putL l G) (keys (bl j)) ∧ rep j) (ok : Ok I G (keys l))
    (hk : ∀ j, Ok I G (keys (bl j ++ l)) → rep j → wp Try.prog (k (val j)) L (own A (bl j ++ l) G) R) : wp Try.prog (.call f args sh k) L (own A l G) R := by
  refine wp_call_of h ?_
  rintro v K ⟨j, rfl, rfl, o, r⟩
  refine ⟨_, rfl, ?_⟩
  rw [← own_append]
  exact hk j (by rw [keys_append]; exact o.join ok) r

/-- The next blocks in front. -/
theorem own_rot' {I : List Nat} {A : Ar} {a b c : Bl} {G : Heap} (ok : Ok I G (keys (a ++ (b ++ c)))) : own A (a ++ (b ++ c)) G = own A (b ++ (a ++ c)) G ∧ Ok I G (keys (b ++ (a ++ c))) := own_rot ok

/-- A slice that begins somewhere in its block. -/
def SlAt {α : Type} (l : Bl) (e : TypeId) (E : Enc α) (s : Sl) (xs : List α) : Prop :=
  (s = ⟨none, 0, 0⟩ ∧ xs = []) ∨ ∃ (b : Nat) (pre rest : List Value) (r : Nat), s = ⟨some ⟨b, pre.length, none⟩, xs.length, xs.length + r⟩ ∧ r * E.sz ≤ rest.length ∧ (b, oc e (pre ++ E.all xs ++ rest)) ∈ l
theorem SlOf.at' {α : Type} {l : Bl} {e : TypeId} {E : Enc α} {s : Sl} {xs : List α} (h : SlOf l e E s xs) : SlAt l e E s xs := by
  rcases h with h | ⟨b, rest, r, h1, h2, h3⟩
  · exact .inl h
  · exact .inr ⟨b, [], rest, r, h1, by omega, h3⟩
theorem SlAt.len {α : Type} {l : Bl} {e : TypeId} {E : Enc α} {s : Sl} {xs : List α} (h : SlAt l e E s xs) : s.len = xs.length := by
  rcases h with ⟨rfl, rfl⟩ | ⟨b, pre, rest, r, rfl, _⟩ <;> rfl
theorem SlAt.mono {α : Type} {l l' : Bl} {e : TypeId} {E : Enc α} {s : Sl} {xs : List α} (h : SlAt l e E s xs) (hm : ∀ p, p ∈ l → p ∈ l') : SlAt l' e E s xs := by
  rcases h with h | ⟨b, pre, rest, r, h1, h2, h3⟩
  · exact .inl h
  · exact .inr ⟨b, pre, rest, r, h1, h2, hm _ h3⟩

/-- Pointers to blocks. -/
def eP : Enc Nat := ⟨1, fun q => [.pointer (some ⟨q, 0, none⟩)], fun _ => rfl, fun x v h => by simp at h; subst h; rfl⟩
theorem eP_all (xs : List Nat) : eP.all xs = xs.map fun q => Value.pointer (some ⟨q, 0, none⟩) := by
  induction xs with
  | nil => rfl
  | cons x xs ih => show Value.pointer (some ⟨x, 0, none⟩) :: eP.all xs = _; rw [ih]; rfl

/-- The rest of a slice of pointers. -/
theorem SlAt.tail {l : Bl} {e : TypeId} {s : Sl} {x : Nat} {xs : List Nat} (h : SlAt l e eP s (x :: xs)) : SlAt l e eP (loSl s 1) xs ∧ (1 : Int) ≤ (s.len : Int) := by
  rcases h with ⟨_, h⟩ | ⟨b, pre, rest, r, rfl, h2, h3⟩
  · cases h
  · refine ⟨?_, by show (1 : Int) ≤ ((xs.length + 1 : Nat) : Int); omega⟩
    unfold loSl
    dsimp only
    by_cases e : (x :: xs).length + r = 1
    · rw [if_pos e]
      have hx : xs = [] := by simp only [List.length_cons] at e; exact List.eq_nil_of_length_eq_zero (by omega)
      have hr : r = 0 := by simp only [List.length_cons] at e; omega
      subst hx; subst hr
      exact .inr ⟨b, pre, eP.all [x] ++ rest, 0, rfl, by omega, by rw [show eP.all ([] : List Nat) = [] from rfl, List.append_nil, ← List.append_assoc]; exact h3⟩
    · rw [if_neg e]
      refine .inr ⟨b, pre ++ [.pointer (some ⟨x, 0, none⟩)], rest, r, ?_, h2, ?_⟩
      · show Sl.mk (some ((Addr.mk b pre.length none).add 1)) _ _ = _
        rw [Addr.add_mk, List.length_append]
        simp only [List.length_cons, List.length_nil, Sl.mk.injEq, true_and]
        omega
      · have : eP.all (x :: xs) = [.pointer (some ⟨x, 0, none⟩)] ++ eP.all xs := rfl
        rw [this] at h3
        simpa using h3
end Go.Proofs.Ytfphgiipekkgdaa

set_option linter.unusedVariables false
set_option maxRecDepth 20000
namespace Go.Proofs.Ytfphgiipekkgdaa
open Go Go.Fw

/-! ### Blocks in another order; appends, rows and maps among them -/

section
variable {L : Hands} {R : Value → Heap → Prop} {A : Ar} {I : List Nat} {l l' : Bl} {G : Heap}

theorem Heap.le_antisymm {H K : Heap} (h : H.le K) (k : K.le H) : H = K := by
  funext b
  cases hb : H b with
  | some o => exact (h b o hb).symm
  | none =>
    cases kb : K b with
    | none => rfl
    | some o => rw [k b o kb] at hb; cases hb

theorem own_perm (ok : Ok I G (keys l)) (h : l.Perm l') : own A l G = own A l' G ∧ Ok I G (keys l') := by
  have hk : (keys l').Perm (keys l) := (h.map Prod.fst).symm
  have ok' : Ok I G (keys l') := ok.sub (hk.nodup_iff.2 ok.nd) fun b hb => hk.subset hb
  exact ⟨Heap.le_antisymm (own_sub ok' ok.nd fun p hp => h.subset hp) (own_sub ok ok'.nd fun p hp => h.symm.subset hp), ok'⟩

theorem own_perm2 (h : l.Perm l') (ok : Ok I G (keys l)) : own A l G = own A l' G ∧ Ok I G (keys l') := own_perm ok h

theorem row_le {H K : Heap} {a : Option Addr} {cs : List Value} (h : Row H a cs) (hk : H.le K) : Row K a cs := by
  intro i hi
  obtain ⟨a', h1, h2⟩ := h i hi
  refine ⟨a', h1, ?_⟩
  rw [List.getElem?_eq_getElem hi] at h2 ⊢
  unfold Heap.cell? at h2 ⊢
  cases hb : H (a'.add i).block with
  | none => simp [hb] at h2
  | some o => rw [hb] at h2; rw [hk _ o hb]; exact h2

/-- Append, of a slice among others. -/
theorem w_appM {sT e u : TypeId} {α : Type} {E : Enc α} (hE : ElOk sT e E.sz) {xs ys : List α} {s t : Sl} {k : Sl → Tree} (pre : Bl) {mid post : Bl} (hA : Aw I A) (ok : Ok I G (keys (pre ++ (mid ++ post)))) (hs : SlOf mid e E s xs) (ht : Row (own A (pre ++ (mid ++ post)) G) t.a (E.all ys)) (htl : t.len = ys.length) (hm : xs.length + ys.length ≤ 1048576)
    (h : ∀ s' mid', SlOf mid' e E s' (xs ++ ys) → Ok I G (keys (pre ++ (mid' ++ post))) → wp Try.prog (k s') L (own A (pre ++ (mid' ++ post)) G) R) :
    wp Try.prog (.act (opS Try.prog (.call { callee := .builtin .append, args := #[(.tmp 0), (.tmp 1)], argTypes := #[sT, sT] }) u [(.slice s.a s.len s.cap), (.slice t.a t.len t.cap)]) (.one (.leaf .slice)) k) L (own A (pre ++ (mid ++ post)) G) R := by
  have perm : ∀ m : Bl, (pre ++ (m ++ post)).Perm ((pre ++ post) ++ m) := fun m => by
    rw [List.append_assoc]; exact List.Perm.append_left _ List.perm_append_comm
  obtain ⟨e1, o1⟩ := own_perm (A := A) ok (perm mid)
  rw [e1] at ht ⊢
  refine w_appT hE hA o1 hs ht htl hm fun s' mid' hs' ok' _ => ?_
  obtain ⟨e2, o2⟩ := own_perm (A := A) ok' (perm mid').symm
  rw [e2]
  exact h s' mid' hs' o2

/-- Look up, put, clear. -/
theorem w_lookup (i : Nat) {V : Type} {enc : V → Value} {c : List (Int × V)} {b : Nat} {kt et t u : TypeId} {x : Int} {inf : TypeInfo} {z : Value} {sh : Sh} {k : sh.T → Tree} {y : sh.T} (hA : Aw I A) (ok : Ok I G (keys l)) (hi : l[i]? = some (b, mapObj enc c)) (ht : Try.prog.underlying t = some (.map kt et))
    (hk : Try.prog.underlying kt = some (.int .i64)) (hin : Try.prog.info? et = some inf) (hz : inf.zero = some z) (hy : (match alGet c x with | some v => enc v | none => z) = sh.toVal y) (h : wp Try.prog (k y) L (own A l G) R) :
    wp Try.prog (.look (opS Try.prog (.lookup t (.tmp 0) (.tmp 1) false) u [.map (some b), .int .i64 x]) sh k) L (own A l G) R :=
  wp_lookup (own_get hA ok hi) ht hk hin hz hy h
theorem w_mapPut (i : Nat) {V : Type} {enc : V → Value} {c : List (Int × V)} {b : Nat} {kt et t u : TypeId} {x : Int} {v : V} {k : Unit → Tree} (hA : Aw I A) (ok : Ok I G (keys l)) (hi : l[i]? = some (b, mapObj enc c)) (ht : Try.prog.underlying t = some (.map kt et))
    (hk : Try.prog.underlying kt = some (.int .i64)) (h : wp Try.prog (k ()) L (own A (l.set i (b, mapObj enc (alPut c x v))) G) R) :
    wp Try.prog (.act (opS Try.prog (.mapUpdate t (.tmp 0) (.tmp 1) (.tmp 2)) u [.map (some b), .int .i64 x, enc v]) .unit k) L (own A l G) R :=
  wp_mapUpdate (own_get hA ok hi) ht hk (by rw [own_set hA ok _ hi]; exact h)
theorem opS_mapTrue {t u : TypeId} (m x : Value) : opS Try.prog (.mapUpdate t (.tmp 0) (.tmp 1) (.const (.bool true))) u [m, x] = opS Try.prog (.mapUpdate t (.tmp 0) (.tmp 1) (.tmp 2)) u [m, x, .bool true] := by kernel_rfl
theorem w_clear (i : Nat) {es : Array MapEntry} {n b : Nat} {t u : TypeId} {d : TypeDesc} {k : Unit → Tree} (hA : Aw I A) (ok : Ok I G (keys l)) (hi : l[i]? = some (b, .map es n)) (ht : Try.prog.underlying t = some d) (h : wp Try.prog (k ()) L (own A (l.set i (b, .map #[] n)) G) R) :
    wp Try.prog (.act (opS Try.prog (.call { callee := .builtin .clear, args := #[.tmp 0], argTypes := #[t] }) u [.map (some b)]) .unit k) L (own A l G) R :=
  wp_clear (own_get hA ok hi) ht (by rw [own_set hA ok _ hi]; exact h)
end
theorem perm_by {l l' : Bl} (h : ∀ (c : List (Nat × Obj) → Nat) (d : Nat × Obj → Nat), c [] = 0 → (∀ a l, c (a :: l) = d a + c l) → (∀ a b, c (a ++ b) = c a + c b) → c l = c l') : l.Perm l' := by
  classical
  refine List.perm_iff_count.2 fun a => ?_
  refine h (List.count a) (fun x => List.count a [x]) rfl (fun x l => ?_) fun x y => List.count_append ..
  rw [show x :: l = [x] ++ l from rfl, List.count_append]

end Go.Proofs.Ytfphgiipekkgdaa

set_option linter.unusedVariables false
set_option maxRecDepth 10000
namespace Go.Proofs.Ytfphgiipekkgdaa
open Go Go.Fw
/- magpie/hazard.Raw -/
noncomputable def t_hazard_Raw (p0 : Int) (p1 : Int) : Tree :=
  .newP (.cells #[(.int .i64 0), (.int .i64 0)] ty_hazard_Table) fun x4 =>
  .stA x4 [(.int .i64 p0), (.int .i64 p1)] <|
  .look (ldK x4 2 0 #[] fun r0 => .pure (.value (.tuple #[(.agg r0), (.int .i64 (w64 (2 * (imax p0 0))))]))) (.tup [(.agg [(.int .i64), (.int .i64)]), (.leaf (.int .i64))]) fun r => .ret (Sh.toVal (.tup [(.agg [(.int .i64), (.int .i64)]), (.leaf (.int .i64))]) r)
theorem t_hazard_Raw_eq (p0 : Int) (p1 : Int) : funcTree Try.prog { quiet := [16, 22, 23, 34, 35, 48, 49, 53, 57, 58, 59, 62, 105], quietTmp := true, fncs := [], ifcs := [] } Try.f34 [(.int .i64 p0), (.int .i64 p1)] = t_hazard_Raw p0 p1 := by kernel_rfl
theorem t_hazard_Raw_spec {p0 : Int} {p1 : Int} {H : Heap} {R : Value → Heap → Prop} (h : ∀ L, wp Try.prog (t_hazard_Raw p0 p1) L H R) : SpecF Try.prog f_hazard_Raw #[(.int .i64 p0), (.int .i64 p1)] H R :=
  spec_of_tree (cfg := { quiet := [16, 22, 23, 34, 35, 48, 49, 53, 57, 58, 59, 62, 105], quietTmp := true, fncs := [], ifcs := [] }) Try.func34 fun L => (t_hazard_Raw_eq p0 p1).symm ▸ h L

/- (magpie/hazard.Table).Word -/
noncomputable def t_hazard_Table_Word (p0_0 : Int) (p0_1 : Int) (p1 : Int) (p2 : Int) : Tree :=
  .newP (.cells #[(.int .i64 p0_0), (.int .i64 p0_1)] ty_hazard_Table) fun x3 =>
  .ld (x3.add 1) (.int .i64) fun x8 =>
  .ret (.int .i64 (w64 ((w64 (x8 + (w64 (2 * p1)))) + p2)))
theorem t_hazard_Table_Word_eq (p0_0 : Int) (p0_1 : Int) (p1 : Int) (p2 : Int) : funcTree Try.prog { quiet := [16, 22, 23, 34, 35, 48, 49, 53, 57, 58, 59, 62, 105], quietTmp := true, fncs := [], ifcs := [] } Try.f35 [(.agg #[(.int .i64 p0_0), (.int .i64 p0_1)]), (.int .i64 p1), (.int .i64 p2)] = t_hazard_Table_Word p0_0 p0_1 p1 p2 := by kernel_rfl
theorem t_hazard_Table_Word_spec {p0_0 : Int} {p0_1 : Int} {p1 : Int} {p2 : Int} {H : Heap} {R : Value → Heap → Prop} (h : ∀ L, wp Try.prog (t_hazard_Table_Word p0_0 p0_1 p1 p2) L H R) : SpecF Try.prog f_hazard_Table_Word #[(.agg #[(.int .i64 p0_0), (.int .i64 p0_1)]), (.int .i64 p1), (.int .i64 p2)] H R :=
  spec_of_tree (cfg := { quiet := [16, 22, 23, 34, 35, 48, 49, 53, 57, 58, 59, 62, 105], quietTmp := true, fncs := [], ifcs := [] }) Try.func35 fun L => (t_hazard_Table_Word_eq p0_0 p0_1 p1 p2).symm ▸ h L

/- magpie/hazard.NewScan -/
noncomputable def t_hazard_NewScan (p0_0 : Int) (p0_1 : Int) (p1_0 : Int) (p1_1 : Int) (p1_2 : Int) (p1_3 : Int) (p1_4 : Int) (p2 : Int) (p3 : Sl) : Tree :=
  .newP (.cells #[(.int .i64 p0_0), (.int .i64 p0_1)] ty_hazard_Table) fun x4 =>
  .newP (.cells #[(.int .i64 p1_0), (.int .i64 p1_1), (.int .i64 p1_2), (.int .i64 p1_3), (.int .i64 p1_4)] ty_free_Place) fun x5 =>
  .ldA x4 [(.int .i64), (.int .i64)] fun x10 =>
  .ldA x5 [(.int .i64), (.int .i64), (.int .i64), (.int .i64), (.int .i64)] fun x11 =>
  .newM fun x13 =>
  .newP (.cells #[(.int .i64 x10.1), (.int .i64 x10.2.1), (.int .i64 x11.1), (.int .i64 x11.2.1), (.int .i64 x11.2.2.1), (.int .i64 x11.2.2.2.1), (.int .i64 x11.2.2.2.2.1), (.int .i64 p2), (.int .i64 0), (.slice none 0 0), (.map x13), (.slice none 0 0), (.slice none 0 0), (.bool false)] ty_hazard_Scan) fun x15 =>
  .look (opS Try.prog (.nilCheck (.tmp 0)) ty_unit [(.pointer (some x15))]) (.one (.leaf .addr)) fun x18 =>
  .ld (x18.add 9) .slice fun x20 =>
  .act (opS Try.prog (.call { callee := .builtin .append, args := #[(.tmp 0), (.tmp 1)], argTypes := #[ty_s_int, ty_s_int] }) ty_s_int [(.slice x20.a x20.len x20.cap), (.slice p3.a p3.len p3.cap)]) (.one (.leaf .slice)) fun x22 =>
  .look (opS Try.prog (.nilCheck (.tmp 0)) ty_unit [(.pointer (some x15))]) (.one (.leaf .addr)) fun x23 =>
  .st (x23.add 9) (.slice x22.a x22.len x22.cap) <|
  .ret (.pointer (some x15))
theorem t_hazard_NewScan_eq (p0_0 : Int) (p0_1 : Int) (p1_0 : Int) (p1_1 : Int) (p1_2 : Int) (p1_3 : Int) (p1_4 : Int) (p2 : Int) (p3 : Sl) : funcTree Try.prog { quiet := [16, 22, 23, 34, 35, 48, 49, 53, 57, 58, 59, 62, 105], quietTmp := true, fncs := [], ifcs := [] } Try.f39 [(.agg #[(.int .i64 p0_0), (.int .i64 p0_1)]), (.agg #[(.int .i64 p1_0), (.int .i64 p1_1), (.int .i64 p1_2), (.int .i64 p1_3), (.int .i64 p1_4)]), (.int .i64 p2), (.slice p3.a p3.len p3.cap)] = t_hazard_NewScan p0_0 p0_1 p1_0 p1_1 p1_2 p1_3 p1_4 p2 p3 := by kernel_rfl
theorem t_hazard_NewScan_spec {p0_0 : Int} {p0_1 : Int} {p1_0 : Int} {p1_1 : Int} {p1_2 : Int} {p1_3 : Int} {p1_4 : Int} {p2 : Int} {p3 : Sl} {H : Heap} {R : Value → Heap → Prop} (h : ∀ L, wp Try.prog (t_hazard_NewScan p0_0 p0_1 p1_0 p1_1 p1_2 p1_3 p1_4 p2 p3) L H R) : SpecF Try.prog f_hazard_NewScan #[(.agg #[(.int .i64 p0_0), (.int .i64 p0_1)]), (.agg #[(.int .i64 p1_0), (.int .i64 p1_1), (.int .i64 p1_2), (.int .i64 p1_3), (.int .i64 p1_4)]), (.int .i64 p2), (.slice p3.a p3.len p3.cap)] H R :=
  spec_of_tree (cfg := { quiet := [16, 22, 23, 34, 35, 48, 49, 53, 57, 58, 59, 62, 105], quietTmp := true, fncs := [], ifcs := [] }) Try.func39 fun L => (t_hazard_NewScan_eq p0_0 p0_1 p1_0 p1_1 p1_2 p1_3 p1_4 p2 p3).symm ▸ h L

/- (*magpie/hazard.Scan).sort -/
@[reducible] def t_hazard_Scan_sort_L1_sh : List Sh1 := [(.leaf (.int .i64))]
noncomputable def t_hazard_Scan_sort_L1 (p0 : Option Addr) (x7 : Sl) (y1 : HL Sh1.T t_hazard_Scan_sort_L1_sh) : Tree :=
  bif (decide ((y1.1 : Int) < ((x7.len : Nat) : Int))) then (
    .look (opS Try.prog (.indexAddr ty_s_int (.tmp 0) (.tmp 1)) ty_unit [(.slice x7.a x7.len x7.cap), (.int .i64 y1.1)]) (.one (.leaf .addr)) fun x11 =>
    .ld x11 (.int .i64) fun x12 =>
    .look (opS Try.prog (.nilCheck (.tmp 0)) ty_unit [(.pointer p0)]) (.one (.leaf .addr)) fun x14 =>
    .ld (x14.add 10) .map fun x16 =>
    .look (opS Try.prog (.lookup ty_m_int_bool (.tmp 0) (.tmp 1) false) ty_bool [(.map x16), (.int .i64 x12)]) (.one (.leaf .bool)) fun x18 =>
    bif x18 then (
      .look (opS Try.prog (.nilCheck (.tmp 0)) ty_unit [(.pointer p0)]) (.one (.leaf .addr)) fun x21 =>
      .ld (x21.add 12) .slice fun x23 =>
      .newS (.cells #[(.int .i64 x12)] ty_int) 1 fun x25 =>
      .act (opS Try.prog (.call { callee := .builtin .append, args := #[(.tmp 0), (.tmp 1)], argTypes := #[ty_s_int, ty_s_int] }) ty_s_int [(.slice x23.a x23.len x23.cap), (.slice x25.a x25.len x25.cap)]) (.one (.leaf .slice)) fun x26 =>
      .look (opS Try.prog (.nilCheck (.tmp 0)) ty_unit [(.pointer p0)]) (.one (.leaf .addr)) fun x27 =>
      .st (x27.add 12) (.slice x26.a x26.len x26.cap) <|
      .again 64 [(.int .i64 (w64 (y1.1 + 1)))])
    else (
      .look (opS Try.prog (.nilCheck (.tmp 0)) ty_unit [(.pointer p0)]) (.one (.leaf .addr)) fun x31 =>
      .ld (x31.add 11) .slice fun x33 =>
      .look (opS Try.prog (.nilCheck (.tmp 0)) ty_unit [(.pointer p0)]) (.one (.leaf .addr)) fun x35 =>
      .ldA (x35.add 2) [(.int .i64), (.int .i64), (.int .i64), (.int .i64), (.int .i64)] fun x37 =>
      .look (opS Try.prog (.nilCheck (.tmp 0)) ty_unit [(.pointer p0)]) (.one (.leaf .addr)) fun x39 =>
      .ld (x39.add 7) (.int .i64) fun x41 =>
      .call f_slab_NewFree [(.agg #[(.int .i64 x37.1), (.int .i64 x37.2.1), (.int .i64 x37.2.2.1), (.int .i64 x37.2.2.2.1), (.int .i64 x37.2.2.2.2.1)]), (.int .i64 x41), (.int .i64 x12)] (.one (.leaf .ptr)) fun x43 =>
      .check (ldS (x31.add 11)) (.slice x33.a x33.len x33.cap) <|
      .check (opS Try.prog (.nilCheck (.tmp 0)) ty_unit [(.pointer p0)]) (.pointer (some x31)) <|
      .newS (.cells #[(.pointer x43)] ty_p_slab_Free) 1 fun x44 =>
      .check (ldS (x31.add 11)) (.slice x33.a x33.len x33.cap) <|
      .check (opS Try.prog (.nilCheck (.tmp 0)) ty_unit [(.pointer p0)]) (.pointer (some x31)) <|
      .act (opS Try.prog (.call { callee := .builtin .append, args := #[(.tmp 0), (.tmp 1)], argTypes := #[ty_s_p_slab_Free, ty_s_p_slab_Free] }) ty_s_p_slab_Free [(.slice x33.a x33.len x33.cap), (.slice x44.a x44.len x44.cap)]) (.one (.leaf .slice)) fun x45 =>
      .look (opS Try.prog (.nilCheck (.tmp 0)) ty_unit [(.pointer p0)]) (.one (.leaf .addr)) fun x46 =>
      .st (x46.add 11) (.slice x45.a x45.len x45.cap) <|
      .again 64 [(.int .i64 (w64 (y1.1 + 1)))]))
  else (
    .look (opS Try.prog (.nilCheck (.tmp 0)) ty_unit [(.pointer p0)]) (.one (.leaf .addr)) fun x50 =>
    .ld (x50.add 10) .map fun x52 =>
    .act (opS Try.prog (.call { callee := .builtin .clear, args := #[(.tmp 0)], argTypes := #[ty_m_int_bool] }) ty_unit [(.map x52)]) .unit fun _ =>
    .look (opS Try.prog (.nilCheck (.tmp 0)) ty_unit [(.pointer p0)]) (.one (.leaf .addr)) fun x55 =>
    .ld (x55.add 11) .slice fun x57 =>
    .look (opS Try.prog (.nilCheck (.tmp 0)) ty_unit [(.pointer p0)]) (.one (.leaf .addr)) fun x60 =>
    .st (x60.add 13) (.bool ((((x57.len : Nat) : Int) : Int) == 0)) <|
    .ret (.tuple #[]))
noncomputable def t_hazard_Scan_sort (p0 : Option Addr) : Tree :=
  .look (opS Try.prog (.nilCheck (.tmp 0)) ty_unit [(.pointer p0)]) (.one (.leaf .addr)) fun x5 =>
  .ld (x5.add 9) .slice fun x7 =>
  .loop 64 t_hazard_Scan_sort_L1_sh [(.int .i64 0)] (t_hazard_Scan_sort_L1 p0 x7)
theorem t_hazard_Scan_sort_eq (p0 : Option Addr) : funcTree Try.prog { quiet := [16, 22, 23, 34, 35, 48, 49, 53, 57, 58, 59, 62, 105], quietTmp := true, fncs := [], ifcs := [] } Try.f67 [(.pointer p0)] = t_hazard_Scan_sort p0 := by kernel_rfl
theorem t_hazard_Scan_sort_spec {p0 : Option Addr} {H : Heap} {R : Value → Heap → Prop} (h : ∀ L, wp Try.prog (t_hazard_Scan_sort p0) L H R) : SpecF Try.prog f_hazard_Scan_sort #[(.pointer p0)] H R :=
  spec_of_tree (cfg := { quiet := [16, 22, 23, 34, 35, 48, 49, 53, 57, 58, 59, 62, 105], quietTmp := true, fncs := [], ifcs := [] }) Try.func67 fun L => (t_hazard_Scan_sort_eq p0).symm ▸ h L

/- (*magpie/hazard.Scan).Step -/
noncomputable def t_hazard_Scan_Step (p0 : Option Addr) (p1 : Option Addr) : Tree :=
  .look (opS Try.prog (.nilCheck (.tmp 0)) ty_unit [(.pointer p0)]) (.one (.leaf .addr)) fun x7 =>
  .ld x7 (.int .i64) fun x10 =>
  .look (opS Try.prog (.nilCheck (.tmp 0)) ty_unit [(.pointer p0)]) (.one (.leaf .addr)) fun x15 =>
  .ld (x15.add 13) .bool fun x17 =>
  bif x17 then (
    .look (opS Try.prog (.nilCheck (.tmp 0)) ty_unit [(.pointer p0)]) (.one (.leaf .addr)) fun x110 =>
    .ld (x110.add 13) .bool fun x112 =>
    .ret (.bool x112))
  else (
    .look (opS Try.prog (.nilCheck (.tmp 0)) ty_unit [(.pointer p0)]) (.one (.leaf .addr)) fun x20 =>
    .ld (x20.add 8) (.int .i64) fun x22 =>
    bif (decide ((x22 : Int) < (w64 (2 * (imax x10 0))))) then (
      .look (opS Try.prog (.nilCheck (.tmp 0)) ty_unit [(.pointer p0)]) (.one (.leaf .addr)) fun x26 =>
      .ld (x26.add 10) .map fun x28 =>
      .look (opS Try.prog (.nilCheck (.tmp 0)) ty_unit [(.pointer p0)]) (.one (.leaf .addr)) fun x31 =>
      .ld (x31.add 1) (.int .i64) fun x34 =>
      .look (opS Try.prog (.nilCheck (.tmp 0)) ty_unit [(.pointer p0)]) (.one (.leaf .addr)) fun x36 =>
      .ld (x36.add 8) (.int .i64) fun x38 =>
      .call f_arena_Arena_Raw [(.pointer p1), (.int .i64 (w64 (x34 + x38)))] (.one (.leaf (.int .i64))) fun x40 =>
      .check (ldS (x26.add 10)) (.map x28) <|
      .check (opS Try.prog (.nilCheck (.tmp 0)) ty_unit [(.pointer p0)]) (.pointer (some x26)) <|
      .act (opS Try.prog (.mapUpdate ty_m_int_bool (.tmp 0) (.tmp 1) (.const (.bool true))) ty_unit [(.map x28), (.int .i64 x40)]) .unit fun _ =>
      .look (opS Try.prog (.nilCheck (.tmp 0)) ty_unit [(.pointer p0)]) (.one (.leaf .addr)) fun x42 =>
      .ld (x42.add 8) (.int .i64) fun x44 =>
      .look (opS Try.prog (.nilCheck (.tmp 0)) ty_unit [(.pointer p0)]) (.one (.leaf .addr)) fun x46 =>
      .st (x46.add 8) (.int .i64 (w64 (x44 + 1))) <|
      .look (opS Try.prog (.nilCheck (.tmp 0)) ty_unit [(.pointer p0)]) (.one (.leaf .addr)) fun x49 =>
      .ld (x49.add 8) (.int .i64) fun x51 =>
      bif ((x51 : Int) == (w64 (2 * (imax x10 0)))) then (
        .call f_hazard_Scan_sort [(.pointer p0)] .unit fun _ =>
        .look (opS Try.prog (.nilCheck (.tmp 0)) ty_unit [(.pointer p0)]) (.one (.leaf .addr)) fun x110 =>
        .ld (x110.add 13) .bool fun x112 =>
        .ret (.bool x112))
      else (
        .look (opS Try.prog (.nilCheck (.tmp 0)) ty_unit [(.pointer p0)]) (.one (.leaf .addr)) fun x110 =>
        .ld (x110.add 13) .bool fun x112 =>
        .ret (.bool x112)))
    else (
      bif (((w64 (2 * (imax x10 0))) : Int) == 0) then (
        .look (opS Try.prog (.nilCheck (.tmp 0)) ty_unit [(.pointer p0)]) (.one (.leaf .addr)) fun x61 =>
        .ld (x61.add 8) (.int .i64) fun x63 =>
        bif ((x63 : Int) == 0) then (
          .look (opS Try.prog (.nilCheck (.tmp 0)) ty_unit [(.pointer p0)]) (.one (.leaf .addr)) fun x67 =>
          .ld (x67.add 8) (.int .i64) fun x69 =>
          .look (opS Try.prog (.nilCheck (.tmp 0)) ty_unit [(.pointer p0)]) (.one (.leaf .addr)) fun x71 =>
          .st (x71.add 8) (.int .i64 (w64 (x69 + 1))) <|
          .call f_hazard_Scan_sort [(.pointer p0)] .unit fun _ =>
          .look (opS Try.prog (.nilCheck (.tmp 0)) ty_unit [(.pointer p0)]) (.one (.leaf .addr)) fun x76 =>
          .ld (x76.add 13) .bool fun x78 =>
          bif (!x78) then (
            .call f_hazard_Scan_Step [(.pointer p0), (.pointer p1)] (.one (.leaf .bool)) fun x82 =>
            .ret (.bool x82))
          else (
            .look (opS Try.prog (.nilCheck (.tmp 0)) ty_unit [(.pointer p0)]) (.one (.leaf .addr)) fun x110 =>
            .ld (x110.add 13) .bool fun x112 =>
            .ret (.bool x112)))
        else (
          .look (opS Try.prog (.nilCheck (.tmp 0)) ty_unit [(.pointer p0)]) (.one (.leaf .addr)) fun x85 =>
          .ld (x85.add 11) .slice fun x87 =>
          .look (opS Try.prog (.indexAddr ty_s_p_slab_Free (.tmp 0) (.const (.int .i64 0))) ty_unit [(.slice x87.a x87.len x87.cap)]) (.one (.leaf .addr)) fun x88 =>
          .ld x88 .ptr fun x89 =>
          .call f_slab_Free_Step [(.pointer x89), (.pointer p1)] (.one (.leaf .bool)) fun x91 =>
          bif x91 then (
            .look (opS Try.prog (.nilCheck (.tmp 0)) ty_unit [(.pointer p0)]) (.one (.leaf .addr)) fun x94 =>
            .ld (x94.add 11) .slice fun x96 =>
            .look (opS Try.prog (.slice ty_s_p_slab_Free (.tmp 0) (some (.const (.int .i64 1))) none none) ty_s_p_slab_Free [(.slice x96.a x96.len x96.cap)]) (.one (.leaf .slice)) fun x97 =>
            .look (opS Try.prog (.nilCheck (.tmp 0)) ty_unit [(.pointer p0)]) (.one (.leaf .addr)) fun x98 =>
            .st (x98.add 11) (.slice x97.a x97.len x97.cap) <|
            .look (opS Try.prog (.nilCheck (.tmp 0)) ty_unit [(.pointer p0)]) (.one (.leaf .addr)) fun x102 =>
            .ld (x102.add 11) .slice fun x104 =>
            .look (opS Try.prog (.nilCheck (.tmp 0)) ty_unit [(.pointer p0)]) (.one (.leaf .addr)) fun x107 =>
            .st (x107.add 13) (.bool ((((x104.len : Nat) : Int) : Int) == 0)) <|
            .look (opS Try.prog (.nilCheck (.tmp 0)) ty_unit [(.pointer p0)]) (.one (.leaf .addr)) fun x110 =>
            .ld (x110.add 13) .bool fun x112 =>
            .ret (.bool x112))
          else (
            .look (opS Try.prog (.nilCheck (.tmp 0)) ty_unit [(.pointer p0)]) (.one (.leaf .addr)) fun x110 =>
            .ld (x110.add 13) .bool fun x112 =>
            .ret (.bool x112))))
      else (
        .look (opS Try.prog (.nilCheck (.tmp 0)) ty_unit [(.pointer p0)]) (.one (.leaf .addr)) fun x85 =>
        .ld (x85.add 11) .slice fun x87 =>
        .look (opS Try.prog (.indexAddr ty_s_p_slab_Free (.tmp 0) (.const (.int .i64 0))) ty_unit [(.slice x87.a x87.len x87.cap)]) (.one (.leaf .addr)) fun x88 =>
        .ld x88 .ptr fun x89 =>
        .call f_slab_Free_Step [(.pointer x89), (.pointer p1)] (.one (.leaf .bool)) fun x91 =>
        bif x91 then (
          .look (opS Try.prog (.nilCheck (.tmp 0)) ty_unit [(.pointer p0)]) (.one (.leaf .addr)) fun x94 =>
          .ld (x94.add 11) .slice fun x96 =>
          .look (opS Try.prog (.slice ty_s_p_slab_Free (.tmp 0) (some (.const (.int .i64 1))) none none) ty_s_p_slab_Free [(.slice x96.a x96.len x96.cap)]) (.one (.leaf .slice)) fun x97 =>
          .look (opS Try.prog (.nilCheck (.tmp 0)) ty_unit [(.pointer p0)]) (.one (.leaf .addr)) fun x98 =>
          .st (x98.add 11) (.slice x97.a x97.len x97.cap) <|
          .look (opS Try.prog (.nilCheck (.tmp 0)) ty_unit [(.pointer p0)]) (.one (.leaf .addr)) fun x102 =>
          .ld (x102.add 11) .slice fun x104 =>
          .look (opS Try.prog (.nilCheck (.tmp 0)) ty_unit [(.pointer p0)]) (.one (.leaf .addr)) fun x107 =>
          .st (x107.add 13) (.bool ((((x104.len : Nat) : Int) : Int) == 0)) <|
          .look (opS Try.prog (.nilCheck (.tmp 0)) ty_unit [(.pointer p0)]) (.one (.leaf .addr)) fun x110 =>
          .ld (x110.add 13) .bool fun x112 =>
          .ret (.bool x112))
        else (
          .look (opS Try.prog (.nilCheck (.tmp 0)) ty_unit [(.pointer p0)]) (.one (.leaf .addr)) fun x110 =>
          .ld (x110.add 13) .bool fun x112 =>
          .ret (.bool x112)))))
theorem t_hazard_Scan_Step_eq (p0 : Option Addr) (p1 : Option Addr) : funcTree Try.prog { quiet := [16, 22, 23, 34, 35, 48, 49, 53, 57, 58, 59, 62, 105], quietTmp := true, fncs := [], ifcs := [] } Try.f42 [(.pointer p0), (.pointer p1)] = t_hazard_Scan_Step p0 p1 := by kernel_rfl
theorem t_hazard_Scan_Step_spec {p0 : Option Addr} {p1 : Option Addr} {H : Heap} {R : Value → Heap → Prop} (h : ∀ L, wp Try.prog (t_hazard_Scan_Step p0 p1) L H R) : SpecF Try.prog f_hazard_Scan_Step #[(.pointer p0), (.pointer p1)] H R :=
  spec_of_tree (cfg := { quiet := [16, 22, 23, 34, 35, 48, 49, 53, 57, 58, 59, 62, 105], quietTmp := true, fncs := [], ifcs := [] }) Try.func42 fun L => (t_hazard_Scan_Step_eq p0 p1).symm ▸ h L

/- (*magpie/hazard.Scan).Left -/
noncomputable def t_hazard_Scan_Left (p0 : Option Addr) : Tree :=
  .look (opS Try.prog (.nilCheck (.tmp 0)) ty_unit [(.pointer p0)]) (.one (.leaf .addr)) fun x4 =>
  .ld (x4.add 13) .bool fun x6 =>
  bif (!x6) then (
    .ret (.slice none 0 0))
  else (
    .look (opS Try.prog (.nilCheck (.tmp 0)) ty_unit [(.pointer p0)]) (.one (.leaf .addr)) fun x9 =>
    .ld (x9.add 12) .slice fun x11 =>
    .act (opS Try.prog (.call { callee := .builtin .append, args := #[(.const (.slice none 0 0)), (.tmp 0)], argTypes := #[ty_s_int, ty_s_int] }) ty_s_int [(.slice x11.a x11.len x11.cap)]) (.one (.leaf .slice)) fun x12 =>
    .ret (.slice x12.a x12.len x12.cap))
theorem t_hazard_Scan_Left_eq (p0 : Option Addr) : funcTree Try.prog { quiet := [16, 22, 23, 34, 35, 48, 49, 53, 57, 58, 59, 62, 105], quietTmp := true, fncs := [], ifcs := [] } Try.f41 [(.pointer p0)] = t_hazard_Scan_Left p0 := by kernel_rfl
theorem t_hazard_Scan_Left_spec {p0 : Option Addr} {H : Heap} {R : Value → Heap → Prop} (h : ∀ L, wp Try.prog (t_hazard_Scan_Left p0) L H R) : SpecF Try.prog f_hazard_Scan_Left #[(.pointer p0)] H R :=
  spec_of_tree (cfg := { quiet := [16, 22, 23, 34, 35, 48, 49, 53, 57, 58, 59, 62, 105], quietTmp := true, fncs := [], ifcs := [] }) Try.func41 fun L => (t_hazard_Scan_Left_eq p0).symm ▸ h L

end Go.Proofs.Ytfphgiipekkgdaa


/- Texts of this claim, one behind the other. -/
import Derived.Test.YtfphgiipekkgdaaCWEpochTurns0
set_option linter.unusedSimpArgs false
set_option linter.unusedVariables false
set_option linter.unusedVariables false
set_option linter.unusedSimpArgs false
set_option maxRecDepth 20000
namespace Go.Proofs.Ytfphgiipekkgdaa
open Go Go.Fw

def Tn.step (m : Tn) (A : Ar) : Tn × Ar :=
  if m.ph = 0 then ({ m with e := A.rawF m.ta, ph := if m.tw < 1 then 2 else 1 }, A.touchR m.ta)
  else if m.ph = 1 then
    (if A.rawF (ewd m.ta m.word) ≠ 0 ∧ A.rawF (ewd m.ta m.word) ≠ w64 (m.e + 1) then Tn.sort { m with word := w64 (m.word + 1) }
     else { m with word := w64 (m.word + 1), ph := if w64 (m.word + 1) = m.tw then 2 else 1 }, A.touchR (ewd m.ta m.word))
  else if m.ph = 2 then ((if A.swapRb m.ta m.e = true then Tn.sort { m with e := w64 (m.e + 1) } else m.sort), A.swapR m.ta m.e (w64 (m.e + 1)))
  else if m.ph = 3 then match m.frees with
    | [] => (m, A)
    | f :: fs => if (f.step A).1.done = true then ({ m with frees := fs, ph := if fs = [] then 4 else 3 }, (f.step A).2) else ({ m with frees := (f.step A).1 :: fs }, (f.step A).2)
  else (m, A)
structure Tn.inv (m : Tn) (A : Ar) : Prop where
  ll : m.l.length ≤ 1000
  un : m.ph ≤ 2 → m.frees = [] ∧ m.left = []
  fr : m.ph = 3 → m.frees ≠ []
def mTn : MchR Tn TnJ where
  f := f_epoch_Turn_Step
  addr := TnJ.q
  bl := Tn.bl
  rep := Tn.rep
  inv := Tn.inv
  step := Tn.step
  fin := fun m => decide (4 ≤ m.ph)
theorem mTn_inv : mTn.inv' ty_p_epoch_Turn := fun q p => by
  show opS _ _ _ _ = .pure (.enter f_epoch_Turn_Step [.pointer (some ⟨q, 0, none⟩), .pointer p].toArray)
  kernel_rfl
theorem tneq (q : Nat) : ∀ ph : Nat, opS Try.prog (.binOp .neq ty_epoch_step (.tmp 0) (.const .nilFunc) ty_epoch_step) ty_bool [tnNext q ph] = .pure (.value (.bool (decide (ph < 4))))
  | 0 => fneq _ _
  | 1 => fneq _ _
  | 2 => fneq _ _
  | 3 => fneq _ _
  | n + 4 => by rw [decide_eq_false (by omega)]; exact fneq0
theorem teq (q : Nat) : ∀ ph : Nat, opS Try.prog (.binOp .eql ty_epoch_step (.tmp 0) (.const .nilFunc) ty_epoch_step) ty_bool [tnNext q ph] = .pure (.value (.bool (decide (4 ≤ ph))))
  | 0 => feq _ _
  | 1 => feq _ _
  | 2 => feq _ _
  | 3 => feq _ _
  | n + 4 => by rw [decide_eq_true (by omega)]; exact feq0

section
variable {L : Hands} {R : Value → Heap → Prop} {A : Ar} {I : List Nat} {l : Bl} {G : Heap}

def TPost (I : List Nat) (G : Heap) (j : TnJ) (m1 : Tn) (A1 : Ar) : Value → Heap → Prop := fun v K => ∃ j' : TnJ, v = .tuple #[] ∧ K = own A1 (m1.bl j') G ∧ j'.q = j.q ∧ Ok I G (keys (m1.bl j')) ∧ m1.rep j' ∧ Aw I A1

theorem tglobal_spec (m : Tn) (j : TnJ) (hA : Aw I A) (ok : Ok I G (keys (m.bl j))) (rp : m.rep j) (hp : m.ph = 0) :
    SpecF Try.prog f_epoch_Turn_global #[.pointer (some ⟨j.q, 0, none⟩), .pointer (aI I)] (own A (m.bl j) G) (TPost I G j { m with e := A.rawF m.ta, ph := if m.tw < 1 then 2 else 1 } (A.touchR m.ta)) := by
  refine t_epoch_Turn_global_spec fun L => ?_
  unfold t_epoch_Turn_global
  unfold Tn.bl at ok ⊢
  repeat (first
  | refine wp_nil.2 ?_
  | refine w_ld 0 hA ok rfl rfl rfl ?_
  | refine w_ld 1 hA ok rfl rfl rfl ?_
  | refine w_ld 2 hA ok rfl rfl rfl ?_
  | refine w_ld 3 hA ok rfl rfl rfl ?_
  | refine w_ld 4 hA ok rfl rfl rfl ?_
  | refine w_ld 5 hA ok rfl rfl rfl ?_
  | refine w_ld 6 hA ok rfl rfl rfl ?_
  | refine w_ld 7 hA ok rfl rfl rfl ?_
  | refine w_st 0 hA ok rfl rfl rfl rfl ?_
  | refine w_st 1 hA ok rfl rfl rfl rfl ?_
  | refine w_st 2 hA ok rfl rfl rfl rfl ?_
  | refine w_st 3 hA ok rfl rfl rfl rfl ?_
  | refine w_st 4 hA ok rfl rfl rfl rfl ?_
  | refine w_st 5 hA ok rfl rfl rfl rfl ?_
  | refine w_st 6 hA ok rfl rfl rfl rfl ?_
  | refine w_st 7 hA ok rfl rfl rfl rfl ?_
  | refine w_ldA 0 hA ok rfl rfl rfl ?_
  | refine w_ldA 1 hA ok rfl rfl rfl ?_
  | refine w_ldA 2 hA ok rfl rfl rfl ?_
  | refine w_ldA 3 hA ok rfl rfl rfl ?_
  | refine w_ldA 4 hA ok rfl rfl rfl ?_
  | refine w_ldA 5 hA ok rfl rfl rfl ?_
  | refine w_ldA 6 hA ok rfl rfl rfl ?_
  | refine w_ldA 7 hA ok rfl rfl rfl ?_
  | refine w_stA 0 hA ok rfl rfl rfl rfl ?_
  | refine w_stA 1 hA ok rfl rfl rfl rfl ?_
  | refine w_stA 2 hA ok rfl rfl rfl rfl ?_
  | refine w_stA 3 hA ok rfl rfl rfl rfl ?_
  | refine w_stA 4 hA ok rfl rfl rfl rfl ?_
  | refine w_stA 5 hA ok rfl rfl rfl rfl ?_
  | refine w_stA 6 hA ok rfl rfl rfl rfl ?_
  | refine w_stA 7 hA ok rfl rfl rfl rfl ?_
  | (refine w_Raw hA ?_; intro hA)
  | (refine w_SetRaw hA ?_; intro hA)
  | (refine w_SwapRaw hA ?_; intro hA)
  | (refine w_AddRaw hA ?_; intro hA)
  | (refine w_Load hA ?_; intro hA)
  | (refine w_Store hA ?_; intro hA)
  | (refine w_Retire hA ?_; intro hA)
  | (refine w_Died hA ?_; intro hA)
  | (refine w_Born hA ?_; intro hA)
  | refine w_State hA ?_
  | refine w_Uses hA ?_
  | refine w_Fault hA ?_
  | refine w_Words hA ?_
  | refine w_Count hA ?_
  | refine wq_Size ?_
  | refine wq_Open ?_
  | refine wq_Pack ?_
  | refine wq_head ?_
  | refine w_ck 0 hA ok rfl rfl rfl ?_
  | refine w_ck 1 hA ok rfl rfl rfl ?_
  | refine w_ck 2 hA ok rfl rfl rfl ?_
  | refine w_ck 3 hA ok rfl rfl rfl ?_
  | refine w_ck 4 hA ok rfl rfl rfl ?_
  | refine w_ck 5 hA ok rfl rfl rfl ?_
  | refine w_ck 6 hA ok rfl rfl rfl ?_
  | refine w_ck 7 hA ok rfl rfl rfl ?_
  | refine w_ckn rfl ?_
  | refine w_Base 0 1 hA ok rfl rfl ?_
  | refine w_Base 1 2 hA ok rfl rfl ?_
  | refine w_Base 2 3 hA ok rfl rfl ?_
  | refine w_Base 3 4 hA ok rfl rfl ?_
  | refine w_Base 4 5 hA ok rfl rfl ?_
  | refine w_Base 5 6 hA ok rfl rfl ?_
  | (refine w_PopStep 0 1 hA ok rfl rfl ?_; intro hA)
  | (refine w_PopStep 1 2 hA ok rfl rfl ?_; intro hA)
  | (refine w_PopStep 2 3 hA ok rfl rfl ?_; intro hA)
  | (refine w_PopStep 3 4 hA ok rfl rfl ?_; intro hA)
  | (refine w_PopStep 4 5 hA ok rfl rfl ?_; intro hA)
  | (refine w_PopStep 5 6 hA ok rfl rfl ?_; intro hA)
  | (refine w_PushStep 0 1 hA ok rfl rfl ?_; intro hA)
  | (refine w_PushStep 1 2 hA ok rfl rfl ?_; intro hA)
  | (refine w_PushStep 2 3 hA ok rfl rfl ?_; intro hA)
  | (refine w_PushStep 3 4 hA ok rfl rfl ?_; intro hA)
  | (refine w_PushStep 4 5 hA ok rfl rfl ?_; intro hA)
  | (refine w_PushStep 5 6 hA ok rfl rfl ?_; intro hA)
  | refine wp_true (by assumption) ?_
  | refine wp_false (by assumption) ?_)
  refine wq_Global ?_
  repeat (first
  | refine wp_nil.2 ?_
  | refine w_ld 0 hA ok rfl rfl rfl ?_
  | refine w_ld 1 hA ok rfl rfl rfl ?_
  | refine w_ld 2 hA ok rfl rfl rfl ?_
  | refine w_ld 3 hA ok rfl rfl rfl ?_
  | refine w_ld 4 hA ok rfl rfl rfl ?_
  | refine w_ld 5 hA ok rfl rfl rfl ?_
  | refine w_ld 6 hA ok rfl rfl rfl ?_
  | refine w_ld 7 hA ok rfl rfl rfl ?_
  | refine w_st 0 hA ok rfl rfl rfl rfl ?_
  | refine w_st 1 hA ok rfl rfl rfl rfl ?_
  | refine w_st 2 hA ok rfl rfl rfl rfl ?_
  | refine w_st 3 hA ok rfl rfl rfl rfl ?_
  | refine w_st 4 hA ok rfl rfl rfl rfl ?_
  | refine w_st 5 hA ok rfl rfl rfl rfl ?_
  | refine w_st 6 hA ok rfl rfl rfl rfl ?_
  | refine w_st 7 hA ok rfl rfl rfl rfl ?_
  | refine w_ldA 0 hA ok rfl rfl rfl ?_
  | refine w_ldA 1 hA ok rfl rfl rfl ?_
  | refine w_ldA 2 hA ok rfl rfl rfl ?_
  | refine w_ldA 3 hA ok rfl rfl rfl ?_
  | refine w_ldA 4 hA ok rfl rfl rfl ?_
  | refine w_ldA 5 hA ok rfl rfl rfl ?_
  | refine w_ldA 6 hA ok rfl rfl rfl ?_
  | refine w_ldA 7 hA ok rfl rfl rfl ?_
  | refine w_stA 0 hA ok rfl rfl rfl rfl ?_
  | refine w_stA 1 hA ok rfl rfl rfl rfl ?_
  | refine w_stA 2 hA ok rfl rfl rfl rfl ?_
  | refine w_stA 3 hA ok rfl rfl rfl rfl ?_
  | refine w_stA 4 hA ok rfl rfl rfl rfl ?_
  | refine w_stA 5 hA ok rfl rfl rfl rfl ?_
  | refine w_stA 6 hA ok rfl rfl rfl rfl ?_
  | refine w_stA 7 hA ok rfl rfl rfl rfl ?_
  | (refine w_Raw hA ?_; intro hA)
  | (refine w_SetRaw hA ?_; intro hA)
  | (refine w_SwapRaw hA ?_; intro hA)
  | (refine w_AddRaw hA ?_; intro hA)
  | (refine w_Load hA ?_; intro hA)
  | (refine w_Store hA ?_; intro hA)
  | (refine w_Retire hA ?_; intro hA)
  | (refine w_Died hA ?_; intro hA)
  | (refine w_Born hA ?_; intro hA)
  | refine w_State hA ?_
  | refine w_Uses hA ?_
  | refine w_Fault hA ?_
  | refine w_Words hA ?_
  | refine w_Count hA ?_
  | refine wq_Size ?_
  | refine wq_Open ?_
  | refine wq_Pack ?_
  | refine wq_head ?_
  | refine w_ck 0 hA ok rfl rfl rfl ?_
  | refine w_ck 1 hA ok rfl rfl rfl ?_
  | refine w_ck 2 hA ok rfl rfl rfl ?_
  | refine w_ck 3 hA ok rfl rfl rfl ?_
  | refine w_ck 4 hA ok rfl rfl rfl ?_
  | refine w_ck 5 hA ok rfl rfl rfl ?_
  | refine w_ck 6 hA ok rfl rfl rfl ?_
  | refine w_ck 7 hA ok rfl rfl rfl ?_
  | refine w_ckn rfl ?_
  | refine w_Base 0 1 hA ok rfl rfl ?_
  | refine w_Base 1 2 hA ok rfl rfl ?_
  | refine w_Base 2 3 hA ok rfl rfl ?_
  | refine w_Base 3 4 hA ok rfl rfl ?_
  | refine w_Base 4 5 hA ok rfl rfl ?_
  | refine w_Base 5 6 hA ok rfl rfl ?_
  | (refine w_PopStep 0 1 hA ok rfl rfl ?_; intro hA)
  | (refine w_PopStep 1 2 hA ok rfl rfl ?_; intro hA)
  | (refine w_PopStep 2 3 hA ok rfl rfl ?_; intro hA)
  | (refine w_PopStep 3 4 hA ok rfl rfl ?_; intro hA)
  | (refine w_PopStep 4 5 hA ok rfl rfl ?_; intro hA)
  | (refine w_PopStep 5 6 hA ok rfl rfl ?_; intro hA)
  | (refine w_PushStep 0 1 hA ok rfl rfl ?_; intro hA)
  | (refine w_PushStep 1 2 hA ok rfl rfl ?_; intro hA)
  | (refine w_PushStep 2 3 hA ok rfl rfl ?_; intro hA)
  | (refine w_PushStep 3 4 hA ok rfl rfl ?_; intro hA)
  | (refine w_PushStep 4 5 hA ok rfl rfl ?_; intro hA)
  | (refine w_PushStep 5 6 hA ok rfl rfl ?_; intro hA)
  | refine wp_true (by assumption) ?_
  | refine wp_false (by assumption) ?_)
  by_cases c : m.tw < 1
  · refine wp_true (decide_eq_true c) ?_
    repeat (first
  | refine wp_nil.2 ?_
  | refine w_ld 0 hA ok rfl rfl rfl ?_
  | refine w_ld 1 hA ok rfl rfl rfl ?_
  | refine w_ld 2 hA ok rfl rfl rfl ?_
  | refine w_ld 3 hA ok rfl rfl rfl ?_
  | refine w_ld 4 hA ok rfl rfl rfl ?_
  | refine w_ld 5 hA ok rfl rfl rfl ?_
  | refine w_ld 6 hA ok rfl rfl rfl ?_
  | refine w_ld 7 hA ok rfl rfl rfl ?_
  | refine w_st 0 hA ok rfl rfl rfl rfl ?_
  | refine w_st 1 hA ok rfl rfl rfl rfl ?_
  | refine w_st 2 hA ok rfl rfl rfl rfl ?_
  | refine w_st 3 hA ok rfl rfl rfl rfl ?_
  | refine w_st 4 hA ok rfl rfl rfl rfl ?_
  | refine w_st 5 hA ok rfl rfl rfl rfl ?_
  | refine w_st 6 hA ok rfl rfl rfl rfl ?_
  | refine w_st 7 hA ok rfl rfl rfl rfl ?_
  | refine w_ldA 0 hA ok rfl rfl rfl ?_
  | refine w_ldA 1 hA ok rfl rfl rfl ?_
  | refine w_ldA 2 hA ok rfl rfl rfl ?_
  | refine w_ldA 3 hA ok rfl rfl rfl ?_
  | refine w_ldA 4 hA ok rfl rfl rfl ?_
  | refine w_ldA 5 hA ok rfl rfl rfl ?_
  | refine w_ldA 6 hA ok rfl rfl rfl ?_
  | refine w_ldA 7 hA ok rfl rfl rfl ?_
  | refine w_stA 0 hA ok rfl rfl rfl rfl ?_
  | refine w_stA 1 hA ok rfl rfl rfl rfl ?_
  | refine w_stA 2 hA ok rfl rfl rfl rfl ?_
  | refine w_stA 3 hA ok rfl rfl rfl rfl ?_
  | refine w_stA 4 hA ok rfl rfl rfl rfl ?_
  | refine w_stA 5 hA ok rfl rfl rfl rfl ?_
  | refine w_stA 6 hA ok rfl rfl rfl rfl ?_
  | refine w_stA 7 hA ok rfl rfl rfl rfl ?_
  | (refine w_Raw hA ?_; intro hA)
  | (refine w_SetRaw hA ?_; intro hA)
  | (refine w_SwapRaw hA ?_; intro hA)
  | (refine w_AddRaw hA ?_; intro hA)
  | (refine w_Load hA ?_; intro hA)
  | (refine w_Store hA ?_; intro hA)
  | (refine w_Retire hA ?_; intro hA)
  | (refine w_Died hA ?_; intro hA)
  | (refine w_Born hA ?_; intro hA)
  | refine w_State hA ?_
  | refine w_Uses hA ?_
  | refine w_Fault hA ?_
  | refine w_Words hA ?_
  | refine w_Count hA ?_
  | refine wq_Size ?_
  | refine wq_Open ?_
  | refine wq_Pack ?_
  | refine wq_head ?_
  | refine w_ck 0 hA ok rfl rfl rfl ?_
  | refine w_ck 1 hA ok rfl rfl rfl ?_
  | refine w_ck 2 hA ok rfl rfl rfl ?_
  | refine w_ck 3 hA ok rfl rfl rfl ?_
  | refine w_ck 4 hA ok rfl rfl rfl ?_
  | refine w_ck 5 hA ok rfl rfl rfl ?_
  | refine w_ck 6 hA ok rfl rfl rfl ?_
  | refine w_ck 7 hA ok rfl rfl rfl ?_
  | refine w_ckn rfl ?_
  | refine w_Base 0 1 hA ok rfl rfl ?_
  | refine w_Base 1 2 hA ok rfl rfl ?_
  | refine w_Base 2 3 hA ok rfl rfl ?_
  | refine w_Base 3 4 hA ok rfl rfl ?_
  | refine w_Base 4 5 hA ok rfl rfl ?_
  | refine w_Base 5 6 hA ok rfl rfl ?_
  | (refine w_PopStep 0 1 hA ok rfl rfl ?_; intro hA)
  | (refine w_PopStep 1 2 hA ok rfl rfl ?_; intro hA)
  | (refine w_PopStep 2 3 hA ok rfl rfl ?_; intro hA)
  | (refine w_PopStep 3 4 hA ok rfl rfl ?_; intro hA)
  | (refine w_PopStep 4 5 hA ok rfl rfl ?_; intro hA)
  | (refine w_PopStep 5 6 hA ok rfl rfl ?_; intro hA)
  | (refine w_PushStep 0 1 hA ok rfl rfl ?_; intro hA)
  | (refine w_PushStep 1 2 hA ok rfl rfl ?_; intro hA)
  | (refine w_PushStep 2 3 hA ok rfl rfl ?_; intro hA)
  | (refine w_PushStep 3 4 hA ok rfl rfl ?_; intro hA)
  | (refine w_PushStep 4 5 hA ok rfl rfl ?_; intro hA)
  | (refine w_PushStep 5 6 hA ok rfl rfl ?_; intro hA)
  | refine wp_true (by assumption) ?_
  | refine wp_false (by assumption) ?_)
    refine wp_ret_of ⟨j, rfl, ?_, rfl, ok, ⟨rp.ls, rp.fs, rp.ds, rp.fl, fun _ => rp.un (by omega)⟩, hA⟩
    rw [if_pos c]; rfl
  · refine wp_false (decide_eq_false c) ?_
    refine wp_ret_of ⟨j, rfl, ?_, rfl, ok, ⟨rp.ls, rp.fs, rp.ds, rp.fl, fun _ => rp.un (by omega)⟩, hA⟩
    rw [if_neg c]; rfl

set_option maxHeartbeats 2000000 in
theorem tlook_spec (m : Tn) (j : TnJ) (hA : Aw I A) (ok : Ok I G (keys (m.bl j))) (rp : m.rep j) (hp : m.ph = 1) (hf : m.frees = []) (hd : m.left = []) (hl : m.l.length ≤ 1000) :
    SpecF Try.prog f_epoch_Turn_look #[.pointer (some ⟨j.q, 0, none⟩), .pointer (aI I)] (own A (m.bl j) G) (TPost I G j
      (if A.rawF (ewd m.ta m.word) ≠ 0 ∧ A.rawF (ewd m.ta m.word) ≠ w64 (m.e + 1) then Tn.sort { m with word := w64 (m.word + 1) }
       else { m with word := w64 (m.word + 1), ph := if w64 (m.word + 1) = m.tw then 2 else 1 }) (A.touchR (ewd m.ta m.word))) := by
  refine t_epoch_Turn_look_spec fun L => ?_
  unfold t_epoch_Turn_look
  unfold Tn.bl at ok ⊢
  repeat (first
  | refine wp_nil.2 ?_
  | refine w_ld 0 hA ok rfl rfl rfl ?_
  | refine w_ld 1 hA ok rfl rfl rfl ?_
  | refine w_ld 2 hA ok rfl rfl rfl ?_
  | refine w_ld 3 hA ok rfl rfl rfl ?_
  | refine w_ld 4 hA ok rfl rfl rfl ?_
  | refine w_ld 5 hA ok rfl rfl rfl ?_
  | refine w_ld 6 hA ok rfl rfl rfl ?_
  | refine w_ld 7 hA ok rfl rfl rfl ?_
  | refine w_st 0 hA ok rfl rfl rfl rfl ?_
  | refine w_st 1 hA ok rfl rfl rfl rfl ?_
  | refine w_st 2 hA ok rfl rfl rfl rfl ?_
  | refine w_st 3 hA ok rfl rfl rfl rfl ?_
  | refine w_st 4 hA ok rfl rfl rfl rfl ?_
  | refine w_st 5 hA ok rfl rfl rfl rfl ?_
  | refine w_st 6 hA ok rfl rfl rfl rfl ?_
  | refine w_st 7 hA ok rfl rfl rfl rfl ?_
  | refine w_ldA 0 hA ok rfl rfl rfl ?_
  | refine w_ldA 1 hA ok rfl rfl rfl ?_
  | refine w_ldA 2 hA ok rfl rfl rfl ?_
  | refine w_ldA 3 hA ok rfl rfl rfl ?_
  | refine w_ldA 4 hA ok rfl rfl rfl ?_
  | refine w_ldA 5 hA ok rfl rfl rfl ?_
  | refine w_ldA 6 hA ok rfl rfl rfl ?_
  | refine w_ldA 7 hA ok rfl rfl rfl ?_
  | refine w_stA 0 hA ok rfl rfl rfl rfl ?_
  | refine w_stA 1 hA ok rfl rfl rfl rfl ?_
  | refine w_stA 2 hA ok rfl rfl rfl rfl ?_
  | refine w_stA 3 hA ok rfl rfl rfl rfl ?_
  | refine w_stA 4 hA ok rfl rfl rfl rfl ?_
  | refine w_stA 5 hA ok rfl rfl rfl rfl ?_
  | refine w_stA 6 hA ok rfl rfl rfl rfl ?_
  | refine w_stA 7 hA ok rfl rfl rfl rfl ?_
  | (refine w_Raw hA ?_; intro hA)
  | (refine w_SetRaw hA ?_; intro hA)
  | (refine w_SwapRaw hA ?_; intro hA)
  | (refine w_AddRaw hA ?_; intro hA)
  | (refine w_Load hA ?_; intro hA)
  | (refine w_Store hA ?_; intro hA)
  | (refine w_Retire hA ?_; intro hA)
  | (refine w_Died hA ?_; intro hA)
  | (refine w_Born hA ?_; intro hA)
  | refine w_State hA ?_
  | refine w_Uses hA ?_
  | refine w_Fault hA ?_
  | refine w_Words hA ?_
  | refine w_Count hA ?_
  | refine wq_Size ?_
  | refine wq_Open ?_
  | refine wq_Pack ?_
  | refine wq_head ?_
  | refine w_ck 0 hA ok rfl rfl rfl ?_
  | refine w_ck 1 hA ok rfl rfl rfl ?_
  | refine w_ck 2 hA ok rfl rfl rfl ?_
  | refine w_ck 3 hA ok rfl rfl rfl ?_
  | refine w_ck 4 hA ok rfl rfl rfl ?_
  | refine w_ck 5 hA ok rfl rfl rfl ?_
  | refine w_ck 6 hA ok rfl rfl rfl ?_
  | refine w_ck 7 hA ok rfl rfl rfl ?_
  | refine w_ckn rfl ?_
  | refine w_Base 0 1 hA ok rfl rfl ?_
  | refine w_Base 1 2 hA ok rfl rfl ?_
  | refine w_Base 2 3 hA ok rfl rfl ?_
  | refine w_Base 3 4 hA ok rfl rfl ?_
  | refine w_Base 4 5 hA ok rfl rfl ?_
  | refine w_Base 5 6 hA ok rfl rfl ?_
  | (refine w_PopStep 0 1 hA ok rfl rfl ?_; intro hA)
  | (refine w_PopStep 1 2 hA ok rfl rfl ?_; intro hA)
  | (refine w_PopStep 2 3 hA ok rfl rfl ?_; intro hA)
  | (refine w_PopStep 3 4 hA ok rfl rfl ?_; intro hA)
  | (refine w_PopStep 4 5 hA ok rfl rfl ?_; intro hA)
  | (refine w_PopStep 5 6 hA ok rfl rfl ?_; intro hA)
  | (refine w_PushStep 0 1 hA ok rfl rfl ?_; intro hA)
  | (refine w_PushStep 1 2 hA ok rfl rfl ?_; intro hA)
  | (refine w_PushStep 2 3 hA ok rfl rfl ?_; intro hA)
  | (refine w_PushStep 3 4 hA ok rfl rfl ?_; intro hA)
  | (refine w_PushStep 4 5 hA ok rfl rfl ?_; intro hA)
  | (refine w_PushStep 5 6 hA ok rfl rfl ?_; intro hA)
  | refine wp_true (by assumption) ?_
  | refine wp_false (by assumption) ?_)
  refine wq_EWord ?_
  repeat (first
  | refine wp_nil.2 ?_
  | refine w_ld 0 hA ok rfl rfl rfl ?_
  | refine w_ld 1 hA ok rfl rfl rfl ?_
  | refine w_ld 2 hA ok rfl rfl rfl ?_
  | refine w_ld 3 hA ok rfl rfl rfl ?_
  | refine w_ld 4 hA ok rfl rfl rfl ?_
  | refine w_ld 5 hA ok rfl rfl rfl ?_
  | refine w_ld 6 hA ok rfl rfl rfl ?_
  | refine w_ld 7 hA ok rfl rfl rfl ?_
  | refine w_st 0 hA ok rfl rfl rfl rfl ?_
  | refine w_st 1 hA ok rfl rfl rfl rfl ?_
  | refine w_st 2 hA ok rfl rfl rfl rfl ?_
  | refine w_st 3 hA ok rfl rfl rfl rfl ?_
  | refine w_st 4 hA ok rfl rfl rfl rfl ?_
  | refine w_st 5 hA ok rfl rfl rfl rfl ?_
  | refine w_st 6 hA ok rfl rfl rfl rfl ?_
  | refine w_st 7 hA ok rfl rfl rfl rfl ?_
  | refine w_ldA 0 hA ok rfl rfl rfl ?_
  | refine w_ldA 1 hA ok rfl rfl rfl ?_
  | refine w_ldA 2 hA ok rfl rfl rfl ?_
  | refine w_ldA 3 hA ok rfl rfl rfl ?_
  | refine w_ldA 4 hA ok rfl rfl rfl ?_
  | refine w_ldA 5 hA ok rfl rfl rfl ?_
  | refine w_ldA 6 hA ok rfl rfl rfl ?_
  | refine w_ldA 7 hA ok rfl rfl rfl ?_
  | refine w_stA 0 hA ok rfl rfl rfl rfl ?_
  | refine w_stA 1 hA ok rfl rfl rfl rfl ?_
  | refine w_stA 2 hA ok rfl rfl rfl rfl ?_
  | refine w_stA 3 hA ok rfl rfl rfl rfl ?_
  | refine w_stA 4 hA ok rfl rfl rfl rfl ?_
  | refine w_stA 5 hA ok rfl rfl rfl rfl ?_
  | refine w_stA 6 hA ok rfl rfl rfl rfl ?_
  | refine w_stA 7 hA ok rfl rfl rfl rfl ?_
  | (refine w_Raw hA ?_; intro hA)
  | (refine w_SetRaw hA ?_; intro hA)
  | (refine w_SwapRaw hA ?_; intro hA)
  | (refine w_AddRaw hA ?_; intro hA)
  | (refine w_Load hA ?_; intro hA)
  | (refine w_Store hA ?_; intro hA)
  | (refine w_Retire hA ?_; intro hA)
  | (refine w_Died hA ?_; intro hA)
  | (refine w_Born hA ?_; intro hA)
  | refine w_State hA ?_
  | refine w_Uses hA ?_
  | refine w_Fault hA ?_
  | refine w_Words hA ?_
  | refine w_Count hA ?_
  | refine wq_Size ?_
  | refine wq_Open ?_
  | refine wq_Pack ?_
  | refine wq_head ?_
  | refine w_ck 0 hA ok rfl rfl rfl ?_
  | refine w_ck 1 hA ok rfl rfl rfl ?_
  | refine w_ck 2 hA ok rfl rfl rfl ?_
  | refine w_ck 3 hA ok rfl rfl rfl ?_
  | refine w_ck 4 hA ok rfl rfl rfl ?_
  | refine w_ck 5 hA ok rfl rfl rfl ?_
  | refine w_ck 6 hA ok rfl rfl rfl ?_
  | refine w_ck 7 hA ok rfl rfl rfl ?_
  | refine w_ckn rfl ?_
  | refine w_Base 0 1 hA ok rfl rfl ?_
  | refine w_Base 1 2 hA ok rfl rfl ?_
  | refine w_Base 2 3 hA ok rfl rfl ?_
  | refine w_Base 3 4 hA ok rfl rfl ?_
  | refine w_Base 4 5 hA ok rfl rfl ?_
  | refine w_Base 5 6 hA ok rfl rfl ?_
  | (refine w_PopStep 0 1 hA ok rfl rfl ?_; intro hA)
  | (refine w_PopStep 1 2 hA ok rfl rfl ?_; intro hA)
  | (refine w_PopStep 2 3 hA ok rfl rfl ?_; intro hA)
  | (refine w_PopStep 3 4 hA ok rfl rfl ?_; intro hA)
  | (refine w_PopStep 4 5 hA ok rfl rfl ?_; intro hA)
  | (refine w_PopStep 5 6 hA ok rfl rfl ?_; intro hA)
  | (refine w_PushStep 0 1 hA ok rfl rfl ?_; intro hA)
  | (refine w_PushStep 1 2 hA ok rfl rfl ?_; intro hA)
  | (refine w_PushStep 2 3 hA ok rfl rfl ?_; intro hA)
  | (refine w_PushStep 3 4 hA ok rfl rfl ?_; intro hA)
  | (refine w_PushStep 4 5 hA ok rfl rfl ?_; intro hA)
  | (refine w_PushStep 5 6 hA ok rfl rfl ?_; intro hA)
  | refine wp_true (by assumption) ?_
  | refine wp_false (by assumption) ?_)
  have rp1 : Tn.rep { m with word := w64 (m.word + 1) } j := ⟨rp.ls, rp.fs, rp.ds, rp.fl, rp.un⟩
  have tail : ∀ L, A.rawF (ewd m.ta m.word) = 0 ∨ A.rawF (ewd m.ta m.word) = w64 (m.e + 1) → wp Try.prog (
      .look (opS Try.prog (.nilCheck (.tmp 0)) ty_unit [(.pointer (some ⟨j.q, 0, none⟩))]) (.one (.leaf .addr)) fun x39 =>
      .ld (x39.add 9) (.int .i64) fun x41 =>
      .look (opS Try.prog (.nilCheck (.tmp 0)) ty_unit [(.pointer (some ⟨j.q, 0, none⟩))]) (.one (.leaf .addr)) fun x43 =>
      .ld x43 (.int .i64) fun x46 =>
      bif ((x41 : Int) == x46) then (
        .look (opS Try.prog (.nilCheck (.tmp 0)) ty_unit [(.pointer (some ⟨j.q, 0, none⟩))]) (.one (.leaf .addr)) fun x51 =>
        .st (x51.add 13) (.func (.func f_epoch_Turn_swap) #[(.pointer (some ⟨j.q, 0, none⟩))] #[]) <|
        .ret (.tuple #[]))
      else (
        .ret (.tuple #[]))) L (own (A.touchR (ewd m.ta m.word)) (Tn.bl { m with word := w64 (m.word + 1) } j) G) (TPost I G j
      (if A.rawF (ewd m.ta m.word) ≠ 0 ∧ A.rawF (ewd m.ta m.word) ≠ w64 (m.e + 1) then Tn.sort { m with word := w64 (m.word + 1) }
       else { m with word := w64 (m.word + 1), ph := if w64 (m.word + 1) = m.tw then 2 else 1 }) (A.touchR (ewd m.ta m.word))) := by
    intro L hv
    have ok : Ok I G (keys (Tn.bl { m with word := w64 (m.word + 1) } j)) := ok
    rw [if_neg (fun h => by rcases hv with h' | h'; exact h.1 h'; exact h.2 h')]
    unfold Tn.bl at ok ⊢
    repeat (first
  | refine wp_nil.2 ?_
  | refine w_ld 0 hA ok rfl rfl rfl ?_
  | refine w_ld 1 hA ok rfl rfl rfl ?_
  | refine w_ld 2 hA ok rfl rfl rfl ?_
  | refine w_ld 3 hA ok rfl rfl rfl ?_
  | refine w_ld 4 hA ok rfl rfl rfl ?_
  | refine w_ld 5 hA ok rfl rfl rfl ?_
  | refine w_ld 6 hA ok rfl rfl rfl ?_
  | refine w_ld 7 hA ok rfl rfl rfl ?_
  | refine w_st 0 hA ok rfl rfl rfl rfl ?_
  | refine w_st 1 hA ok rfl rfl rfl rfl ?_
  | refine w_st 2 hA ok rfl rfl rfl rfl ?_
  | refine w_st 3 hA ok rfl rfl rfl rfl ?_
  | refine w_st 4 hA ok rfl rfl rfl rfl ?_
  | refine w_st 5 hA ok rfl rfl rfl rfl ?_
  | refine w_st 6 hA ok rfl rfl rfl rfl ?_
  | refine w_st 7 hA ok rfl rfl rfl rfl ?_
  | refine w_ldA 0 hA ok rfl rfl rfl ?_
  | refine w_ldA 1 hA ok rfl rfl rfl ?_
  | refine w_ldA 2 hA ok rfl rfl rfl ?_
  | refine w_ldA 3 hA ok rfl rfl rfl ?_
  | refine w_ldA 4 hA ok rfl rfl rfl ?_
  | refine w_ldA 5 hA ok rfl rfl rfl ?_
  | refine w_ldA 6 hA ok rfl rfl rfl ?_
  | refine w_ldA 7 hA ok rfl rfl rfl ?_
  | refine w_stA 0 hA ok rfl rfl rfl rfl ?_
  | refine w_stA 1 hA ok rfl rfl rfl rfl ?_
  | refine w_stA 2 hA ok rfl rfl rfl rfl ?_
  | refine w_stA 3 hA ok rfl rfl rfl rfl ?_
  | refine w_stA 4 hA ok rfl rfl rfl rfl ?_
  | refine w_stA 5 hA ok rfl rfl rfl rfl ?_
  | refine w_stA 6 hA ok rfl rfl rfl rfl ?_
  | refine w_stA 7 hA ok rfl rfl rfl rfl ?_
  | (refine w_Raw hA ?_; intro hA)
  | (refine w_SetRaw hA ?_; intro hA)
  | (refine w_SwapRaw hA ?_; intro hA)
  | (refine w_AddRaw hA ?_; intro hA)
  | (refine w_Load hA ?_; intro hA)
  | (refine w_Store hA ?_; intro hA)
  | (refine w_Retire hA ?_; intro hA)
  | (refine w_Died hA ?_; intro hA)
  | (refine w_Born hA ?_; intro hA)
  | refine w_State hA ?_
  | refine w_Uses hA ?_
  | refine w_Fault hA ?_
  | refine w_Words hA ?_
  | refine w_Count hA ?_
  | refine wq_Size ?_
  | refine wq_Open ?_
  | refine wq_Pack ?_
  | refine wq_head ?_
  | refine w_ck 0 hA ok rfl rfl rfl ?_
  | refine w_ck 1 hA ok rfl rfl rfl ?_
  | refine w_ck 2 hA ok rfl rfl rfl ?_
  | refine w_ck 3 hA ok rfl rfl rfl ?_
  | refine w_ck 4 hA ok rfl rfl rfl ?_
  | refine w_ck 5 hA ok rfl rfl rfl ?_
  | refine w_ck 6 hA ok rfl rfl rfl ?_
  | refine w_ck 7 hA ok rfl rfl rfl ?_
  | refine w_ckn rfl ?_
  | refine w_Base 0 1 hA ok rfl rfl ?_
  | refine w_Base 1 2 hA ok rfl rfl ?_
  | refine w_Base 2 3 hA ok rfl rfl ?_
  | refine w_Base 3 4 hA ok rfl rfl ?_
  | refine w_Base 4 5 hA ok rfl rfl ?_
  | refine w_Base 5 6 hA ok rfl rfl ?_
  | (refine w_PopStep 0 1 hA ok rfl rfl ?_; intro hA)
  | (refine w_PopStep 1 2 hA ok rfl rfl ?_; intro hA)
  | (refine w_PopStep 2 3 hA ok rfl rfl ?_; intro hA)
  | (refine w_PopStep 3 4 hA ok rfl rfl ?_; intro hA)
  | (refine w_PopStep 4 5 hA ok rfl rfl ?_; intro hA)
  | (refine w_PopStep 5 6 hA ok rfl rfl ?_; intro hA)
  | (refine w_PushStep 0 1 hA ok rfl rfl ?_; intro hA)
  | (refine w_PushStep 1 2 hA ok rfl rfl ?_; intro hA)
  | (refine w_PushStep 2 3 hA ok rfl rfl ?_; intro hA)
  | (refine w_PushStep 3 4 hA ok rfl rfl ?_; intro hA)
  | (refine w_PushStep 4 5 hA ok rfl rfl ?_; intro hA)
  | (refine w_PushStep 5 6 hA ok rfl rfl ?_; intro hA)
  | refine wp_true (by assumption) ?_
  | refine wp_false (by assumption) ?_)
    by_cases c : w64 (m.word + 1) = m.tw
    · refine wp_true (ibeq c) ?_
      repeat (first
  | refine wp_nil.2 ?_
  | refine w_ld 0 hA ok rfl rfl rfl ?_
  | refine w_ld 1 hA ok rfl rfl rfl ?_
  | refine w_ld 2 hA ok rfl rfl rfl ?_
  | refine w_ld 3 hA ok rfl rfl rfl ?_
  | refine w_ld 4 hA ok rfl rfl rfl ?_
  | refine w_ld 5 hA ok rfl rfl rfl ?_
  | refine w_ld 6 hA ok rfl rfl rfl ?_
  | refine w_ld 7 hA ok rfl rfl rfl ?_
  | refine w_st 0 hA ok rfl rfl rfl rfl ?_
  | refine w_st 1 hA ok rfl rfl rfl rfl ?_
  | refine w_st 2 hA ok rfl rfl rfl rfl ?_
  | refine w_st 3 hA ok rfl rfl rfl rfl ?_
  | refine w_st 4 hA ok rfl rfl rfl rfl ?_
  | refine w_st 5 hA ok rfl rfl rfl rfl ?_
  | refine w_st 6 hA ok rfl rfl rfl rfl ?_
  | refine w_st 7 hA ok rfl rfl rfl rfl ?_
  | refine w_ldA 0 hA ok rfl rfl rfl ?_
  | refine w_ldA 1 hA ok rfl rfl rfl ?_
  | refine w_ldA 2 hA ok rfl rfl rfl ?_
  | refine w_ldA 3 hA ok rfl rfl rfl ?_
  | refine w_ldA 4 hA ok rfl rfl rfl ?_
  | refine w_ldA 5 hA ok rfl rfl rfl ?_
  | refine w_ldA 6 hA ok rfl rfl rfl ?_
  | refine w_ldA 7 hA ok rfl rfl rfl ?_
  | refine w_stA 0 hA ok rfl rfl rfl rfl ?_
  | refine w_stA 1 hA ok rfl rfl rfl rfl ?_
  | refine w_stA 2 hA ok rfl rfl rfl rfl ?_
  | refine w_stA 3 hA ok rfl rfl rfl rfl ?_
  | refine w_stA 4 hA ok rfl rfl rfl rfl ?_
  | refine w_stA 5 hA ok rfl rfl rfl rfl ?_
  | refine w_stA 6 hA ok rfl rfl rfl rfl ?_
  | refine w_stA 7 hA ok rfl rfl rfl rfl ?_
  | (refine w_Raw hA ?_; intro hA)
  | (refine w_SetRaw hA ?_; intro hA)
  | (refine w_SwapRaw hA ?_; intro hA)
  | (refine w_AddRaw hA ?_; intro hA)
  | (refine w_Load hA ?_; intro hA)
  | (refine w_Store hA ?_; intro hA)
  | (refine w_Retire hA ?_; intro hA)
  | (refine w_Died hA ?_; intro hA)
  | (refine w_Born hA ?_; intro hA)
  | refine w_State hA ?_
  | refine w_Uses hA ?_
  | refine w_Fault hA ?_
  | refine w_Words hA ?_
  | refine w_Count hA ?_
  | refine wq_Size ?_
  | refine wq_Open ?_
  | refine wq_Pack ?_
  | refine wq_head ?_
  | refine w_ck 0 hA ok rfl rfl rfl ?_
  | refine w_ck 1 hA ok rfl rfl rfl ?_
  | refine w_ck 2 hA ok rfl rfl rfl ?_
  | refine w_ck 3 hA ok rfl rfl rfl ?_
  | refine w_ck 4 hA ok rfl rfl rfl ?_
  | refine w_ck 5 hA ok rfl rfl rfl ?_
  | refine w_ck 6 hA ok rfl rfl rfl ?_
  | refine w_ck 7 hA ok rfl rfl rfl ?_
  | refine w_ckn rfl ?_
  | refine w_Base 0 1 hA ok rfl rfl ?_
  | refine w_Base 1 2 hA ok rfl rfl ?_
  | refine w_Base 2 3 hA ok rfl rfl ?_
  | refine w_Base 3 4 hA ok rfl rfl ?_
  | refine w_Base 4 5 hA ok rfl rfl ?_
  | refine w_Base 5 6 hA ok rfl rfl ?_
  | (refine w_PopStep 0 1 hA ok rfl rfl ?_; intro hA)
  | (refine w_PopStep 1 2 hA ok rfl rfl ?_; intro hA)
  | (refine w_PopStep 2 3 hA ok rfl rfl ?_; intro hA)
  | (refine w_PopStep 3 4 hA ok rfl rfl ?_; intro hA)
  | (refine w_PopStep 4 5 hA ok rfl rfl ?_; intro hA)
  | (refine w_PopStep 5 6 hA ok rfl rfl ?_; intro hA)
  | (refine w_PushStep 0 1 hA ok rfl rfl ?_; intro hA)
  | (refine w_PushStep 1 2 hA ok rfl rfl ?_; intro hA)
  | (refine w_PushStep 2 3 hA ok rfl rfl ?_; intro hA)
  | (refine w_PushStep 3 4 hA ok rfl rfl ?_; intro hA)
  | (refine w_PushStep 4 5 hA ok rfl rfl ?_; intro hA)
  | (refine w_PushStep 5 6 hA ok rfl rfl ?_; intro hA)
  | refine wp_true (by assumption) ?_
  | refine wp_false (by assumption) ?_)
      refine wp_ret_of ⟨j, rfl, ?_, rfl, ok, ⟨rp.ls, rp.fs, rp.ds, rp.fl, fun _ => rp.un (by omega)⟩, hA⟩
      rw [if_pos c]; rfl
    · refine wp_false (ibef c) ?_
      refine wp_ret_of ⟨j, rfl, ?_, rfl, ok, ⟨rp.ls, rp.fs, rp.ds, rp.fl, fun _ => rp.un (by omega)⟩, hA⟩
      rw [if_neg c]
      have e : tnNext j.q m.ph = tnNext j.q 1 := by rw [hp]
      show own _ ((j.q, oc ty_epoch_Turn (tnC m.tw m.ta m.pl m.work m.e (w64 (m.word + 1)) j.ls j.fs j.ds (tnNext j.q m.ph))) :: _) G = _
      rw [e]; rfl
  by_cases c0 : A.rawF (ewd m.ta m.word) = 0
  · refine wp_false (by rw [c0]; rfl) ?_
    exact tail L (.inl c0)
  · refine wp_true (ibne c0) ?_
    repeat (first
  | refine wp_nil.2 ?_
  | refine w_ld 0 hA ok rfl rfl rfl ?_
  | refine w_ld 1 hA ok rfl rfl rfl ?_
  | refine w_ld 2 hA ok rfl rfl rfl ?_
  | refine w_ld 3 hA ok rfl rfl rfl ?_
  | refine w_ld 4 hA ok rfl rfl rfl ?_
  | refine w_ld 5 hA ok rfl rfl rfl ?_
  | refine w_ld 6 hA ok rfl rfl rfl ?_
  | refine w_ld 7 hA ok rfl rfl rfl ?_
  | refine w_st 0 hA ok rfl rfl rfl rfl ?_
  | refine w_st 1 hA ok rfl rfl rfl rfl ?_
  | refine w_st 2 hA ok rfl rfl rfl rfl ?_
  | refine w_st 3 hA ok rfl rfl rfl rfl ?_
  | refine w_st 4 hA ok rfl rfl rfl rfl ?_
  | refine w_st 5 hA ok rfl rfl rfl rfl ?_
  | refine w_st 6 hA ok rfl rfl rfl rfl ?_
  | refine w_st 7 hA ok rfl rfl rfl rfl ?_
  | refine w_ldA 0 hA ok rfl rfl rfl ?_
  | refine w_ldA 1 hA ok rfl rfl rfl ?_
  | refine w_ldA 2 hA ok rfl rfl rfl ?_
  | refine w_ldA 3 hA ok rfl rfl rfl ?_
  | refine w_ldA 4 hA ok rfl rfl rfl ?_
  | refine w_ldA 5 hA ok rfl rfl rfl ?_
  | refine w_ldA 6 hA ok rfl rfl rfl ?_
  | refine w_ldA 7 hA ok rfl rfl rfl ?_
  | refine w_stA 0 hA ok rfl rfl rfl rfl ?_
  | refine w_stA 1 hA ok rfl rfl rfl rfl ?_
  | refine w_stA 2 hA ok rfl rfl rfl rfl ?_
  | refine w_stA 3 hA ok rfl rfl rfl rfl ?_
  | refine w_stA 4 hA ok rfl rfl rfl rfl ?_
  | refine w_stA 5 hA ok rfl rfl rfl rfl ?_
  | refine w_stA 6 hA ok rfl rfl rfl rfl ?_
  | refine w_stA 7 hA ok rfl rfl rfl rfl ?_
  | (refine w_Raw hA ?_; intro hA)
  | (refine w_SetRaw hA ?_; intro hA)
  | (refine w_SwapRaw hA ?_; intro hA)
  | (refine w_AddRaw hA ?_; intro hA)
  | (refine w_Load hA ?_; intro hA)
  | (refine w_Store hA ?_; intro hA)
  | (refine w_Retire hA ?_; intro hA)
  | (refine w_Died hA ?_; intro hA)
  | (refine w_Born hA ?_; intro hA)
  | refine w_State hA ?_
  | refine w_Uses hA ?_
  | refine w_Fault hA ?_
  | refine w_Words hA ?_
  | refine w_Count hA ?_
  | refine wq_Size ?_
  | refine wq_Open ?_
  | refine wq_Pack ?_
  | refine wq_head ?_
  | refine w_ck 0 hA ok rfl rfl rfl ?_
  | refine w_ck 1 hA ok rfl rfl rfl ?_
  | refine w_ck 2 hA ok rfl rfl rfl ?_
  | refine w_ck 3 hA ok rfl rfl rfl ?_
  | refine w_ck 4 hA ok rfl rfl rfl ?_
  | refine w_ck 5 hA ok rfl rfl rfl ?_
  | refine w_ck 6 hA ok rfl rfl rfl ?_
  | refine w_ck 7 hA ok rfl rfl rfl ?_
  | refine w_ckn rfl ?_
  | refine w_Base 0 1 hA ok rfl rfl ?_
  | refine w_Base 1 2 hA ok rfl rfl ?_
  | refine w_Base 2 3 hA ok rfl rfl ?_
  | refine w_Base 3 4 hA ok rfl rfl ?_
  | refine w_Base 4 5 hA ok rfl rfl ?_
  | refine w_Base 5 6 hA ok rfl rfl ?_
  | (refine w_PopStep 0 1 hA ok rfl rfl ?_; intro hA)
  | (refine w_PopStep 1 2 hA ok rfl rfl ?_; intro hA)
  | (refine w_PopStep 2 3 hA ok rfl rfl ?_; intro hA)
  | (refine w_PopStep 3 4 hA ok rfl rfl ?_; intro hA)
  | (refine w_PopStep 4 5 hA ok rfl rfl ?_; intro hA)
  | (refine w_PopStep 5 6 hA ok rfl rfl ?_; intro hA)
  | (refine w_PushStep 0 1 hA ok rfl rfl ?_; intro hA)
  | (refine w_PushStep 1 2 hA ok rfl rfl ?_; intro hA)
  | (refine w_PushStep 2 3 hA ok rfl rfl ?_; intro hA)
  | (refine w_PushStep 3 4 hA ok rfl rfl ?_; intro hA)
  | (refine w_PushStep 4 5 hA ok rfl rfl ?_; intro hA)
  | (refine w_PushStep 5 6 hA ok rfl rfl ?_; intro hA)
  | refine wp_true (by assumption) ?_
  | refine wp_false (by assumption) ?_)
    by_cases c1 : A.rawF (ewd m.ta m.word) = w64 (m.e + 1)
    · refine wp_false (ibnf c1) ?_
      exact tail L (.inr c1)
    · refine wp_true (ibne c1) ?_
      rw [if_pos ⟨c0, c1⟩]
      refine wp_call_of (tsort_spec { m with word := w64 (m.word + 1) } j hA ok rp1 (by show m.ph ≤ 2; omega) hf hd hl) ?_
      rintro v K ⟨j', rfl, rfl, eq, ok', rp'⟩
      exact ⟨(), rfl, wp_ret_of ⟨j', rfl, rfl, eq, ok', rp', hA⟩⟩

theorem tswap_spec (m : Tn) (j : TnJ) (hA : Aw I A) (ok : Ok I G (keys (m.bl j))) (rp : m.rep j) (hp : m.ph = 2) (hf : m.frees = []) (hd : m.left = []) (hl : m.l.length ≤ 1000) :
    SpecF Try.prog f_epoch_Turn_swap #[.pointer (some ⟨j.q, 0, none⟩), .pointer (aI I)] (own A (m.bl j) G) (TPost I G j
      (if A.swapRb m.ta m.e = true then Tn.sort { m with e := w64 (m.e + 1) } else m.sort) (A.swapR m.ta m.e (w64 (m.e + 1)))) := by
  refine t_epoch_Turn_swap_spec fun L => ?_
  unfold t_epoch_Turn_swap
  unfold Tn.bl at ok ⊢
  repeat (first
  | refine wp_nil.2 ?_
  | refine w_ld 0 hA ok rfl rfl rfl ?_
  | refine w_ld 1 hA ok rfl rfl rfl ?_
  | refine w_ld 2 hA ok rfl rfl rfl ?_
  | refine w_ld 3 hA ok rfl rfl rfl ?_
  | refine w_ld 4 hA ok rfl rfl rfl ?_
  | refine w_ld 5 hA ok rfl rfl rfl ?_
  | refine w_ld 6 hA ok rfl rfl rfl ?_
  | refine w_ld 7 hA ok rfl rfl rfl ?_
  | refine w_st 0 hA ok rfl rfl rfl rfl ?_
  | refine w_st 1 hA ok rfl rfl rfl rfl ?_
  | refine w_st 2 hA ok rfl rfl rfl rfl ?_
  | refine w_st 3 hA ok rfl rfl rfl rfl ?_
  | refine w_st 4 hA ok rfl rfl rfl rfl ?_
  | refine w_st 5 hA ok rfl rfl rfl rfl ?_
  | refine w_st 6 hA ok rfl rfl rfl rfl ?_
  | refine w_st 7 hA ok rfl rfl rfl rfl ?_
  | refine w_ldA 0 hA ok rfl rfl rfl ?_
  | refine w_ldA 1 hA ok rfl rfl rfl ?_
  | refine w_ldA 2 hA ok rfl rfl rfl ?_
  | refine w_ldA 3 hA ok rfl rfl rfl ?_
  | refine w_ldA 4 hA ok rfl rfl rfl ?_
  | refine w_ldA 5 hA ok rfl rfl rfl ?_
  | refine w_ldA 6 hA ok rfl rfl rfl ?_
  | refine w_ldA 7 hA ok rfl rfl rfl ?_
  | refine w_stA 0 hA ok rfl rfl rfl rfl ?_
  | refine w_stA 1 hA ok rfl rfl rfl rfl ?_
  | refine w_stA 2 hA ok rfl rfl rfl rfl ?_
  | refine w_stA 3 hA ok rfl rfl rfl rfl ?_
  | refine w_stA 4 hA ok rfl rfl rfl rfl ?_
  | refine w_stA 5 hA ok rfl rfl rfl rfl ?_
  | refine w_stA 6 hA ok rfl rfl rfl rfl ?_
  | refine w_stA 7 hA ok rfl rfl rfl rfl ?_
  | (refine w_Raw hA ?_; intro hA)
  | (refine w_SetRaw hA ?_; intro hA)
  | (refine w_SwapRaw hA ?_; intro hA)
  | (refine w_AddRaw hA ?_; intro hA)
  | (refine w_Load hA ?_; intro hA)
  | (refine w_Store hA ?_; intro hA)
  | (refine w_Retire hA ?_; intro hA)
  | (refine w_Died hA ?_; intro hA)
  | (refine w_Born hA ?_; intro hA)
  | refine w_State hA ?_
  | refine w_Uses hA ?_
  | refine w_Fault hA ?_
  | refine w_Words hA ?_
  | refine w_Count hA ?_
  | refine wq_Size ?_
  | refine wq_Open ?_
  | refine wq_Pack ?_
  | refine wq_head ?_
  | refine w_ck 0 hA ok rfl rfl rfl ?_
  | refine w_ck 1 hA ok rfl rfl rfl ?_
  | refine w_ck 2 hA ok rfl rfl rfl ?_
  | refine w_ck 3 hA ok rfl rfl rfl ?_
  | refine w_ck 4 hA ok rfl rfl rfl ?_
  | refine w_ck 5 hA ok rfl rfl rfl ?_
  | refine w_ck 6 hA ok rfl rfl rfl ?_
  | refine w_ck 7 hA ok rfl rfl rfl ?_
  | refine w_ckn rfl ?_
  | refine w_Base 0 1 hA ok rfl rfl ?_
  | refine w_Base 1 2 hA ok rfl rfl ?_
  | refine w_Base 2 3 hA ok rfl rfl ?_
  | refine w_Base 3 4 hA ok rfl rfl ?_
  | refine w_Base 4 5 hA ok rfl rfl ?_
  | refine w_Base 5 6 hA ok rfl rfl ?_
  | (refine w_PopStep 0 1 hA ok rfl rfl ?_; intro hA)
  | (refine w_PopStep 1 2 hA ok rfl rfl ?_; intro hA)
  | (refine w_PopStep 2 3 hA ok rfl rfl ?_; intro hA)
  | (refine w_PopStep 3 4 hA ok rfl rfl ?_; intro hA)
  | (refine w_PopStep 4 5 hA ok rfl rfl ?_; intro hA)
  | (refine w_PopStep 5 6 hA ok rfl rfl ?_; intro hA)
  | (refine w_PushStep 0 1 hA ok rfl rfl ?_; intro hA)
  | (refine w_PushStep 1 2 hA ok rfl rfl ?_; intro hA)
  | (refine w_PushStep 2 3 hA ok rfl rfl ?_; intro hA)
  | (refine w_PushStep 3 4 hA ok rfl rfl ?_; intro hA)
  | (refine w_PushStep 4 5 hA ok rfl rfl ?_; intro hA)
  | (refine w_PushStep 5 6 hA ok rfl rfl ?_; intro hA)
  | refine wp_true (by assumption) ?_
  | refine wp_false (by assumption) ?_)
  refine wq_Global ?_
  repeat (first
  | refine wp_nil.2 ?_
  | refine w_ld 0 hA ok rfl rfl rfl ?_
  | refine w_ld 1 hA ok rfl rfl rfl ?_
  | refine w_ld 2 hA ok rfl rfl rfl ?_
  | refine w_ld 3 hA ok rfl rfl rfl ?_
  | refine w_ld 4 hA ok rfl rfl rfl ?_
  | refine w_ld 5 hA ok rfl rfl rfl ?_
  | refine w_ld 6 hA ok rfl rfl rfl ?_
  | refine w_ld 7 hA ok rfl rfl rfl ?_
  | refine w_st 0 hA ok rfl rfl rfl rfl ?_
  | refine w_st 1 hA ok rfl rfl rfl rfl ?_
  | refine w_st 2 hA ok rfl rfl rfl rfl ?_
  | refine w_st 3 hA ok rfl rfl rfl rfl ?_
  | refine w_st 4 hA ok rfl rfl rfl rfl ?_
  | refine w_st 5 hA ok rfl rfl rfl rfl ?_
  | refine w_st 6 hA ok rfl rfl rfl rfl ?_
  | refine w_st 7 hA ok rfl rfl rfl rfl ?_
  | refine w_ldA 0 hA ok rfl rfl rfl ?_
  | refine w_ldA 1 hA ok rfl rfl rfl ?_
  | refine w_ldA 2 hA ok rfl rfl rfl ?_
  | refine w_ldA 3 hA ok rfl rfl rfl ?_
  | refine w_ldA 4 hA ok rfl rfl rfl ?_
  | refine w_ldA 5 hA ok rfl rfl rfl ?_
  | refine w_ldA 6 hA ok rfl rfl rfl ?_
  | refine w_ldA 7 hA ok rfl rfl rfl ?_
  | refine w_stA 0 hA ok rfl rfl rfl rfl ?_
  | refine w_stA 1 hA ok rfl rfl rfl rfl ?_
  | refine w_stA 2 hA ok rfl rfl rfl rfl ?_
  | refine w_stA 3 hA ok rfl rfl rfl rfl ?_
  | refine w_stA 4 hA ok rfl rfl rfl rfl ?_
  | refine w_stA 5 hA ok rfl rfl rfl rfl ?_
  | refine w_stA 6 hA ok rfl rfl rfl rfl ?_
  | refine w_stA 7 hA ok rfl rfl rfl rfl ?_
  | (refine w_Raw hA ?_; intro hA)
  | (refine w_SetRaw hA ?_; intro hA)
  | (refine w_SwapRaw hA ?_; intro hA)
  | (refine w_AddRaw hA ?_; intro hA)
  | (refine w_Load hA ?_; intro hA)
  | (refine w_Store hA ?_; intro hA)
  | (refine w_Retire hA ?_; intro hA)
  | (refine w_Died hA ?_; intro hA)
  | (refine w_Born hA ?_; intro hA)
  | refine w_State hA ?_
  | refine w_Uses hA ?_
  | refine w_Fault hA ?_
  | refine w_Words hA ?_
  | refine w_Count hA ?_
  | refine wq_Size ?_
  | refine wq_Open ?_
  | refine wq_Pack ?_
  | refine wq_head ?_
  | refine w_ck 0 hA ok rfl rfl rfl ?_
  | refine w_ck 1 hA ok rfl rfl rfl ?_
  | refine w_ck 2 hA ok rfl rfl rfl ?_
  | refine w_ck 3 hA ok rfl rfl rfl ?_
  | refine w_ck 4 hA ok rfl rfl rfl ?_
  | refine w_ck 5 hA ok rfl rfl rfl ?_
  | refine w_ck 6 hA ok rfl rfl rfl ?_
  | refine w_ck 7 hA ok rfl rfl rfl ?_
  | refine w_ckn rfl ?_
  | refine w_Base 0 1 hA ok rfl rfl ?_
  | refine w_Base 1 2 hA ok rfl rfl ?_
  | refine w_Base 2 3 hA ok rfl rfl ?_
  | refine w_Base 3 4 hA ok rfl rfl ?_
  | refine w_Base 4 5 hA ok rfl rfl ?_
  | refine w_Base 5 6 hA ok rfl rfl ?_
  | (refine w_PopStep 0 1 hA ok rfl rfl ?_; intro hA)
  | (refine w_PopStep 1 2 hA ok rfl rfl ?_; intro hA)
  | (refine w_PopStep 2 3 hA ok rfl rfl ?_; intro hA)
  | (refine w_PopStep 3 4 hA ok rfl rfl ?_; intro hA)
  | (refine w_PopStep 4 5 hA ok rfl rfl ?_; intro hA)
  | (refine w_PopStep 5 6 hA ok rfl rfl ?_; intro hA)
  | (refine w_PushStep 0 1 hA ok rfl rfl ?_; intro hA)
  | (refine w_PushStep 1 2 hA ok rfl rfl ?_; intro hA)
  | (refine w_PushStep 2 3 hA ok rfl rfl ?_; intro hA)
  | (refine w_PushStep 3 4 hA ok rfl rfl ?_; intro hA)
  | (refine w_PushStep 4 5 hA ok rfl rfl ?_; intro hA)
  | (refine w_PushStep 5 6 hA ok rfl rfl ?_; intro hA)
  | refine wp_true (by assumption) ?_
  | refine wp_false (by assumption) ?_)
  by_cases c : A.swapRb m.ta m.e = true
  · rw [if_pos c]
    refine wp_true c ?_
    repeat (first
  | refine wp_nil.2 ?_
  | refine w_ld 0 hA ok rfl rfl rfl ?_
  | refine w_ld 1 hA ok rfl rfl rfl ?_
  | refine w_ld 2 hA ok rfl rfl rfl ?_
  | refine w_ld 3 hA ok rfl rfl rfl ?_
  | refine w_ld 4 hA ok rfl rfl rfl ?_
  | refine w_ld 5 hA ok rfl rfl rfl ?_
  | refine w_ld 6 hA ok rfl rfl rfl ?_
  | refine w_ld 7 hA ok rfl rfl rfl ?_
  | refine w_st 0 hA ok rfl rfl rfl rfl ?_
  | refine w_st 1 hA ok rfl rfl rfl rfl ?_
  | refine w_st 2 hA ok rfl rfl rfl rfl ?_
  | refine w_st 3 hA ok rfl rfl rfl rfl ?_
  | refine w_st 4 hA ok rfl rfl rfl rfl ?_
  | refine w_st 5 hA ok rfl rfl rfl rfl ?_
  | refine w_st 6 hA ok rfl rfl rfl rfl ?_
  | refine w_st 7 hA ok rfl rfl rfl rfl ?_
  | refine w_ldA 0 hA ok rfl rfl rfl ?_
  | refine w_ldA 1 hA ok rfl rfl rfl ?_
  | refine w_ldA 2 hA ok rfl rfl rfl ?_
  | refine w_ldA 3 hA ok rfl rfl rfl ?_
  | refine w_ldA 4 hA ok rfl rfl rfl ?_
  | refine w_ldA 5 hA ok rfl rfl rfl ?_
  | refine w_ldA 6 hA ok rfl rfl rfl ?_
  | refine w_ldA 7 hA ok rfl rfl rfl ?_
  | refine w_stA 0 hA ok rfl rfl rfl rfl ?_
  | refine w_stA 1 hA ok rfl rfl rfl rfl ?_
  | refine w_stA 2 hA ok rfl rfl rfl rfl ?_
  | refine w_stA 3 hA ok rfl rfl rfl rfl ?_
  | refine w_stA 4 hA ok rfl rfl rfl rfl ?_
  | refine w_stA 5 hA ok rfl rfl rfl rfl ?_
  | refine w_stA 6 hA ok rfl rfl rfl rfl ?_
  | refine w_stA 7 hA ok rfl rfl rfl rfl ?_
  | (refine w_Raw hA ?_; intro hA)
  | (refine w_SetRaw hA ?_; intro hA)
  | (refine w_SwapRaw hA ?_; intro hA)
  | (refine w_AddRaw hA ?_; intro hA)
  | (refine w_Load hA ?_; intro hA)
  | (refine w_Store hA ?_; intro hA)
  | (refine w_Retire hA ?_; intro hA)
  | (refine w_Died hA ?_; intro hA)
  | (refine w_Born hA ?_; intro hA)
  | refine w_State hA ?_
  | refine w_Uses hA ?_
  | refine w_Fault hA ?_
  | refine w_Words hA ?_
  | refine w_Count hA ?_
  | refine wq_Size ?_
  | refine wq_Open ?_
  | refine wq_Pack ?_
  | refine wq_head ?_
  | refine w_ck 0 hA ok rfl rfl rfl ?_
  | refine w_ck 1 hA ok rfl rfl rfl ?_
  | refine w_ck 2 hA ok rfl rfl rfl ?_
  | refine w_ck 3 hA ok rfl rfl rfl ?_
  | refine w_ck 4 hA ok rfl rfl rfl ?_
  | refine w_ck 5 hA ok rfl rfl rfl ?_
  | refine w_ck 6 hA ok rfl rfl rfl ?_
  | refine w_ck 7 hA ok rfl rfl rfl ?_
  | refine w_ckn rfl ?_
  | refine w_Base 0 1 hA ok rfl rfl ?_
  | refine w_Base 1 2 hA ok rfl rfl ?_
  | refine w_Base 2 3 hA ok rfl rfl ?_
  | refine w_Base 3 4 hA ok rfl rfl ?_
  | refine w_Base 4 5 hA ok rfl rfl ?_
  | refine w_Base 5 6 hA ok rfl rfl ?_
  | (refine w_PopStep 0 1 hA ok rfl rfl ?_; intro hA)
  | (refine w_PopStep 1 2 hA ok rfl rfl ?_; intro hA)
  | (refine w_PopStep 2 3 hA ok rfl rfl ?_; intro hA)
  | (refine w_PopStep 3 4 hA ok rfl rfl ?_; intro hA)
  | (refine w_PopStep 4 5 hA ok rfl rfl ?_; intro hA)
  | (refine w_PopStep 5 6 hA ok rfl rfl ?_; intro hA)
  | (refine w_PushStep 0 1 hA ok rfl rfl ?_; intro hA)
  | (refine w_PushStep 1 2 hA ok rfl rfl ?_; intro hA)
  | (refine w_PushStep 2 3 hA ok rfl rfl ?_; intro hA)
  | (refine w_PushStep 3 4 hA ok rfl rfl ?_; intro hA)
  | (refine w_PushStep 4 5 hA ok rfl rfl ?_; intro hA)
  | (refine w_PushStep 5 6 hA ok rfl rfl ?_; intro hA)
  | refine wp_true (by assumption) ?_
  | refine wp_false (by assumption) ?_)
    refine wp_call_of (tsort_spec { m with e := w64 (m.e + 1) } j hA ok ⟨rp.ls, rp.fs, rp.ds, rp.fl, rp.un⟩ (by show m.ph ≤ 2; omega) hf hd hl) ?_
    rintro v K ⟨j', rfl, rfl, eq, ok', rp'⟩
    exact ⟨(), rfl, wp_ret_of ⟨j', rfl, rfl, eq, ok', rp', hA⟩⟩
  · rw [if_neg c]
    refine wp_false (by simpa using c) ?_
    refine wp_call_of (tsort_spec m j hA ok rp (by omega) hf hd hl) ?_
    rintro v K ⟨j', rfl, rfl, eq, ok', rp'⟩
    exact ⟨(), rfl, wp_ret_of ⟨j', rfl, rfl, eq, ok', rp', hA⟩⟩

set_option maxHeartbeats 2000000 in
theorem tfree_spec (m : Tn) (j : TnJ) (hA : Aw I A) (ok : Ok I G (keys (m.bl j))) (rp : m.rep j) (hp : m.ph = 3) {f : Fe} {fs : List Fe} (efs : m.frees = f :: fs) :
    SpecF Try.prog f_epoch_Turn_free #[.pointer (some ⟨j.q, 0, none⟩), .pointer (aI I)] (own A (m.bl j) G) (TPost I G j
      (if (f.step A).1.done = true then { m with frees := fs, ph := if fs = [] then 4 else 3 } else { m with frees := (f.step A).1 :: fs }) (f.step A).2) := by
  refine t_epoch_Turn_free_spec fun L => ?_
  unfold t_epoch_Turn_free
  obtain ⟨jf, js, ejs⟩ : ∃ jf js, j.fj = jf :: js := by
    have := rp.fl
    cases h : j.fj with
    | nil => rw [efs, h] at this; cases this
    | cons f fs => exact ⟨f, fs, rfl⟩
  have rfs := rp.fs
  rw [ejs] at rfs
  have hl0 : (0 : Int) < (j.fs.len : Int) := by have := rfs.len; simp at this; omega
  have hfl : fs.length = js.length := by have := rp.fl; rw [efs, ejs] at this; simpa using this
  unfold Tn.bl at ok ⊢
  rw [efs, ejs] at ok ⊢
  simp only [fbl] at ok ⊢
  repeat (first
  | refine wp_nil.2 ?_
  | refine w_ld 0 hA ok rfl rfl rfl ?_
  | refine w_ld 1 hA ok rfl rfl rfl ?_
  | refine w_ld 2 hA ok rfl rfl rfl ?_
  | refine w_ld 3 hA ok rfl rfl rfl ?_
  | refine w_ld 4 hA ok rfl rfl rfl ?_
  | refine w_ld 5 hA ok rfl rfl rfl ?_
  | refine w_ld 6 hA ok rfl rfl rfl ?_
  | refine w_ld 7 hA ok rfl rfl rfl ?_
  | refine w_st 0 hA ok rfl rfl rfl rfl ?_
  | refine w_st 1 hA ok rfl rfl rfl rfl ?_
  | refine w_st 2 hA ok rfl rfl rfl rfl ?_
  | refine w_st 3 hA ok rfl rfl rfl rfl ?_
  | refine w_st 4 hA ok rfl rfl rfl rfl ?_
  | refine w_st 5 hA ok rfl rfl rfl rfl ?_
  | refine w_st 6 hA ok rfl rfl rfl rfl ?_
  | refine w_st 7 hA ok rfl rfl rfl rfl ?_
  | refine w_ldA 0 hA ok rfl rfl rfl ?_
  | refine w_ldA 1 hA ok rfl rfl rfl ?_
  | refine w_ldA 2 hA ok rfl rfl rfl ?_
  | refine w_ldA 3 hA ok rfl rfl rfl ?_
  | refine w_ldA 4 hA ok rfl rfl rfl ?_
  | refine w_ldA 5 hA ok rfl rfl rfl ?_
  | refine w_ldA 6 hA ok rfl rfl rfl ?_
  | refine w_ldA 7 hA ok rfl rfl rfl ?_
  | refine w_stA 0 hA ok rfl rfl rfl rfl ?_
  | refine w_stA 1 hA ok rfl rfl rfl rfl ?_
  | refine w_stA 2 hA ok rfl rfl rfl rfl ?_
  | refine w_stA 3 hA ok rfl rfl rfl rfl ?_
  | refine w_stA 4 hA ok rfl rfl rfl rfl ?_
  | refine w_stA 5 hA ok rfl rfl rfl rfl ?_
  | refine w_stA 6 hA ok rfl rfl rfl rfl ?_
  | refine w_stA 7 hA ok rfl rfl rfl rfl ?_
  | (refine w_Raw hA ?_; intro hA)
  | (refine w_SetRaw hA ?_; intro hA)
  | (refine w_SwapRaw hA ?_; intro hA)
  | (refine w_AddRaw hA ?_; intro hA)
  | (refine w_Load hA ?_; intro hA)
  | (refine w_Store hA ?_; intro hA)
  | (refine w_Retire hA ?_; intro hA)
  | (refine w_Died hA ?_; intro hA)
  | (refine w_Born hA ?_; intro hA)
  | refine w_State hA ?_
  | refine w_Uses hA ?_
  | refine w_Fault hA ?_
  | refine w_Words hA ?_
  | refine w_Count hA ?_
  | refine wq_Size ?_
  | refine wq_Open ?_
  | refine wq_Pack ?_
  | refine wq_head ?_
  | refine w_ck 0 hA ok rfl rfl rfl ?_
  | refine w_ck 1 hA ok rfl rfl rfl ?_
  | refine w_ck 2 hA ok rfl rfl rfl ?_
  | refine w_ck 3 hA ok rfl rfl rfl ?_
  | refine w_ck 4 hA ok rfl rfl rfl ?_
  | refine w_ck 5 hA ok rfl rfl rfl ?_
  | refine w_ck 6 hA ok rfl rfl rfl ?_
  | refine w_ck 7 hA ok rfl rfl rfl ?_
  | refine w_ckn rfl ?_
  | refine w_Base 0 1 hA ok rfl rfl ?_
  | refine w_Base 1 2 hA ok rfl rfl ?_
  | refine w_Base 2 3 hA ok rfl rfl ?_
  | refine w_Base 3 4 hA ok rfl rfl ?_
  | refine w_Base 4 5 hA ok rfl rfl ?_
  | refine w_Base 5 6 hA ok rfl rfl ?_
  | (refine w_PopStep 0 1 hA ok rfl rfl ?_; intro hA)
  | (refine w_PopStep 1 2 hA ok rfl rfl ?_; intro hA)
  | (refine w_PopStep 2 3 hA ok rfl rfl ?_; intro hA)
  | (refine w_PopStep 3 4 hA ok rfl rfl ?_; intro hA)
  | (refine w_PopStep 4 5 hA ok rfl rfl ?_; intro hA)
  | (refine w_PopStep 5 6 hA ok rfl rfl ?_; intro hA)
  | (refine w_PushStep 0 1 hA ok rfl rfl ?_; intro hA)
  | (refine w_PushStep 1 2 hA ok rfl rfl ?_; intro hA)
  | (refine w_PushStep 2 3 hA ok rfl rfl ?_; intro hA)
  | (refine w_PushStep 3 4 hA ok rfl rfl ?_; intro hA)
  | (refine w_PushStep 4 5 hA ok rfl rfl ?_; intro hA)
  | (refine w_PushStep 5 6 hA ok rfl rfl ?_; intro hA)
  | refine wp_true (by assumption) ?_
  | refine wp_false (by assumption) ?_)
  refine rdP0 hA ok (rfs.mono fun p hp => List.mem_cons_of_mem _ (List.mem_append_right _ (List.mem_append_right _ (List.mem_append_left _ hp)))) ?_
  obtain ⟨p1, ok2⟩ := own_perm (A := A) (l' := f.bl jf ++ ((j.q, oc ty_epoch_Turn (m.cells j)) :: (fbl fs js ++ (j.tls ++ (j.tfs ++ j.tds))))) ok (perm_by fun c d c0 cd ca => by simp only [cd, ca, c0]; omega)
  rw [p1]
  have ok3 : Ok I G (keys (f.bl jf) ++ keys ((j.q, oc ty_epoch_Turn (m.cells j)) :: (fbl fs js ++ (j.tls ++ (j.tfs ++ j.tds))))) := by rw [← keys_append]; exact ok2
  obtain ⟨o1, o2⟩ := ok3.split
  refine w_sub (mFe_ok I A _ f jf hA o1 trivial) ?_
  rintro v K ⟨jf', rfl, rfl, ej, o3, hA'⟩
  refine ⟨(f.step A).1.done, rfl, ?_⟩
  have hA := hA'
  show wp Try.prog _ L (own (f.step A).2 ((f.step A).1.bl jf') (putL _ G)) _
  rw [← own_append]
  have o4 : Ok I G (keys ((f.step A).1.bl jf' ++ ((j.q, oc ty_epoch_Turn (m.cells j)) :: (fbl fs js ++ (j.tls ++ (j.tfs ++ j.tds)))))) := by rw [keys_append]; exact o3.join o2
  by_cases hd : (f.step A).1.done = true
  · rw [if_pos hd]
    refine wp_true hd ?_
    obtain ⟨p2, ok5⟩ := own_perm (A := (f.step A).2) (l' := (j.q, oc ty_epoch_Turn (m.cells j)) :: (fbl fs js ++ (j.tls ++ (j.tfs ++ ((f.step A).1.bl jf' ++ j.tds))))) o4 (perm_by fun c d c0 cd ca => by simp only [cd, ca, c0]; omega)
    have ok := ok5
    have p3 : own (f.step A).2 (Fe.bl (f.step A).1 jf' ++ ((j.q, oc ty_epoch_Turn (m.cells j)) :: (fbl fs js ++ (j.tls ++ (j.tfs ++ j.tds))))) G = _ := p2
    rw [p3]
    repeat (first
  | refine wp_nil.2 ?_
  | refine w_ld 0 hA ok rfl rfl rfl ?_
  | refine w_ld 1 hA ok rfl rfl rfl ?_
  | refine w_ld 2 hA ok rfl rfl rfl ?_
  | refine w_ld 3 hA ok rfl rfl rfl ?_
  | refine w_ld 4 hA ok rfl rfl rfl ?_
  | refine w_ld 5 hA ok rfl rfl rfl ?_
  | refine w_ld 6 hA ok rfl rfl rfl ?_
  | refine w_ld 7 hA ok rfl rfl rfl ?_
  | refine w_st 0 hA ok rfl rfl rfl rfl ?_
  | refine w_st 1 hA ok rfl rfl rfl rfl ?_
  | refine w_st 2 hA ok rfl rfl rfl rfl ?_
  | refine w_st 3 hA ok rfl rfl rfl rfl ?_
  | refine w_st 4 hA ok rfl rfl rfl rfl ?_
  | refine w_st 5 hA ok rfl rfl rfl rfl ?_
  | refine w_st 6 hA ok rfl rfl rfl rfl ?_
  | refine w_st 7 hA ok rfl rfl rfl rfl ?_
  | refine w_ldA 0 hA ok rfl rfl rfl ?_
  | refine w_ldA 1 hA ok rfl rfl rfl ?_
  | refine w_ldA 2 hA ok rfl rfl rfl ?_
  | refine w_ldA 3 hA ok rfl rfl rfl ?_
  | refine w_ldA 4 hA ok rfl rfl rfl ?_
  | refine w_ldA 5 hA ok rfl rfl rfl ?_
  | refine w_ldA 6 hA ok rfl rfl rfl ?_
  | refine w_ldA 7 hA ok rfl rfl rfl ?_
  | refine w_stA 0 hA ok rfl rfl rfl rfl ?_
  | refine w_stA 1 hA ok rfl rfl rfl rfl ?_
  | refine w_stA 2 hA ok rfl rfl rfl rfl ?_
  | refine w_stA 3 hA ok rfl rfl rfl rfl ?_
  | refine w_stA 4 hA ok rfl rfl rfl rfl ?_
  | refine w_stA 5 hA ok rfl rfl rfl rfl ?_
  | refine w_stA 6 hA ok rfl rfl rfl rfl ?_
  | refine w_stA 7 hA ok rfl rfl rfl rfl ?_
  | (refine w_Raw hA ?_; intro hA)
  | (refine w_SetRaw hA ?_; intro hA)
  | (refine w_SwapRaw hA ?_; intro hA)
  | (refine w_AddRaw hA ?_; intro hA)
  | (refine w_Load hA ?_; intro hA)
  | (refine w_Store hA ?_; intro hA)
  | (refine w_Retire hA ?_; intro hA)
  | (refine w_Died hA ?_; intro hA)
  | (refine w_Born hA ?_; intro hA)
  | refine w_State hA ?_
  | refine w_Uses hA ?_
  | refine w_Fault hA ?_
  | refine w_Words hA ?_
  | refine w_Count hA ?_
  | refine wq_Size ?_
  | refine wq_Open ?_
  | refine wq_Pack ?_
  | refine wq_head ?_
  | refine w_ck 0 hA ok rfl rfl rfl ?_
  | refine w_ck 1 hA ok rfl rfl rfl ?_
  | refine w_ck 2 hA ok rfl rfl rfl ?_
  | refine w_ck 3 hA ok rfl rfl rfl ?_
  | refine w_ck 4 hA ok rfl rfl rfl ?_
  | refine w_ck 5 hA ok rfl rfl rfl ?_
  | refine w_ck 6 hA ok rfl rfl rfl ?_
  | refine w_ck 7 hA ok rfl rfl rfl ?_
  | refine w_ckn rfl ?_
  | refine w_Base 0 1 hA ok rfl rfl ?_
  | refine w_Base 1 2 hA ok rfl rfl ?_
  | refine w_Base 2 3 hA ok rfl rfl ?_
  | refine w_Base 3 4 hA ok rfl rfl ?_
  | refine w_Base 4 5 hA ok rfl rfl ?_
  | refine w_Base 5 6 hA ok rfl rfl ?_
  | (refine w_PopStep 0 1 hA ok rfl rfl ?_; intro hA)
  | (refine w_PopStep 1 2 hA ok rfl rfl ?_; intro hA)
  | (refine w_PopStep 2 3 hA ok rfl rfl ?_; intro hA)
  | (refine w_PopStep 3 4 hA ok rfl rfl ?_; intro hA)
  | (refine w_PopStep 4 5 hA ok rfl rfl ?_; intro hA)
  | (refine w_PopStep 5 6 hA ok rfl rfl ?_; intro hA)
  | (refine w_PushStep 0 1 hA ok rfl rfl ?_; intro hA)
  | (refine w_PushStep 1 2 hA ok rfl rfl ?_; intro hA)
  | (refine w_PushStep 2 3 hA ok rfl rfl ?_; intro hA)
  | (refine w_PushStep 3 4 hA ok rfl rfl ?_; intro hA)
  | (refine w_PushStep 4 5 hA ok rfl rfl ?_; intro hA)
  | (refine w_PushStep 5 6 hA ok rfl rfl ?_; intro hA)
  | refine wp_true (by assumption) ?_
  | refine wp_false (by assumption) ?_)
    obtain ⟨tl1, tl2⟩ := rfs.tail
    rw [opS_lo1]
    refine look_val (x := loSl j.fs 1) (opS_sliceLo (e := ty_p_slab_Free) rfl rfl rfl (by omega) tl2) ?_
    repeat (first
  | refine wp_nil.2 ?_
  | refine w_ld 0 hA ok rfl rfl rfl ?_
  | refine w_ld 1 hA ok rfl rfl rfl ?_
  | refine w_ld 2 hA ok rfl rfl rfl ?_
  | refine w_ld 3 hA ok rfl rfl rfl ?_
  | refine w_ld 4 hA ok rfl rfl rfl ?_
  | refine w_ld 5 hA ok rfl rfl rfl ?_
  | refine w_ld 6 hA ok rfl rfl rfl ?_
  | refine w_ld 7 hA ok rfl rfl rfl ?_
  | refine w_st 0 hA ok rfl rfl rfl rfl ?_
  | refine w_st 1 hA ok rfl rfl rfl rfl ?_
  | refine w_st 2 hA ok rfl rfl rfl rfl ?_
  | refine w_st 3 hA ok rfl rfl rfl rfl ?_
  | refine w_st 4 hA ok rfl rfl rfl rfl ?_
  | refine w_st 5 hA ok rfl rfl rfl rfl ?_
  | refine w_st 6 hA ok rfl rfl rfl rfl ?_
  | refine w_st 7 hA ok rfl rfl rfl rfl ?_
  | refine w_ldA 0 hA ok rfl rfl rfl ?_
  | refine w_ldA 1 hA ok rfl rfl rfl ?_
  | refine w_ldA 2 hA ok rfl rfl rfl ?_
  | refine w_ldA 3 hA ok rfl rfl rfl ?_
  | refine w_ldA 4 hA ok rfl rfl rfl ?_
  | refine w_ldA 5 hA ok rfl rfl rfl ?_
  | refine w_ldA 6 hA ok rfl rfl rfl ?_
  | refine w_ldA 7 hA ok rfl rfl rfl ?_
  | refine w_stA 0 hA ok rfl rfl rfl rfl ?_
  | refine w_stA 1 hA ok rfl rfl rfl rfl ?_
  | refine w_stA 2 hA ok rfl rfl rfl rfl ?_
  | refine w_stA 3 hA ok rfl rfl rfl rfl ?_
  | refine w_stA 4 hA ok rfl rfl rfl rfl ?_
  | refine w_stA 5 hA ok rfl rfl rfl rfl ?_
  | refine w_stA 6 hA ok rfl rfl rfl rfl ?_
  | refine w_stA 7 hA ok rfl rfl rfl rfl ?_
  | (refine w_Raw hA ?_; intro hA)
  | (refine w_SetRaw hA ?_; intro hA)
  | (refine w_SwapRaw hA ?_; intro hA)
  | (refine w_AddRaw hA ?_; intro hA)
  | (refine w_Load hA ?_; intro hA)
  | (refine w_Store hA ?_; intro hA)
  | (refine w_Retire hA ?_; intro hA)
  | (refine w_Died hA ?_; intro hA)
  | (refine w_Born hA ?_; intro hA)
  | refine w_State hA ?_
  | refine w_Uses hA ?_
  | refine w_Fault hA ?_
  | refine w_Words hA ?_
  | refine w_Count hA ?_
  | refine wq_Size ?_
  | refine wq_Open ?_
  | refine wq_Pack ?_
  | refine wq_head ?_
  | refine w_ck 0 hA ok rfl rfl rfl ?_
  | refine w_ck 1 hA ok rfl rfl rfl ?_
  | refine w_ck 2 hA ok rfl rfl rfl ?_
  | refine w_ck 3 hA ok rfl rfl rfl ?_
  | refine w_ck 4 hA ok rfl rfl rfl ?_
  | refine w_ck 5 hA ok rfl rfl rfl ?_
  | refine w_ck 6 hA ok rfl rfl rfl ?_
  | refine w_ck 7 hA ok rfl rfl rfl ?_
  | refine w_ckn rfl ?_
  | refine w_Base 0 1 hA ok rfl rfl ?_
  | refine w_Base 1 2 hA ok rfl rfl ?_
  | refine w_Base 2 3 hA ok rfl rfl ?_
  | refine w_Base 3 4 hA ok rfl rfl ?_
  | refine w_Base 4 5 hA ok rfl rfl ?_
  | refine w_Base 5 6 hA ok rfl rfl ?_
  | (refine w_PopStep 0 1 hA ok rfl rfl ?_; intro hA)
  | (refine w_PopStep 1 2 hA ok rfl rfl ?_; intro hA)
  | (refine w_PopStep 2 3 hA ok rfl rfl ?_; intro hA)
  | (refine w_PopStep 3 4 hA ok rfl rfl ?_; intro hA)
  | (refine w_PopStep 4 5 hA ok rfl rfl ?_; intro hA)
  | (refine w_PopStep 5 6 hA ok rfl rfl ?_; intro hA)
  | (refine w_PushStep 0 1 hA ok rfl rfl ?_; intro hA)
  | (refine w_PushStep 1 2 hA ok rfl rfl ?_; intro hA)
  | (refine w_PushStep 2 3 hA ok rfl rfl ?_; intro hA)
  | (refine w_PushStep 3 4 hA ok rfl rfl ?_; intro hA)
  | (refine w_PushStep 4 5 hA ok rfl rfl ?_; intro hA)
  | (refine w_PushStep 5 6 hA ok rfl rfl ?_; intro hA)
  | refine wp_true (by assumption) ?_
  | refine wp_false (by assumption) ?_)
    have hle := tl1.len
    rw [List.length_map] at hle
    by_cases hz : fs = []
    · refine wp_true (ibeq (by show (((loSl j.fs 1).len : Nat) : Int) = 0; rw [hle, ← hfl, hz]; rfl)) ?_
      repeat (first
  | refine wp_nil.2 ?_
  | refine w_ld 0 hA ok rfl rfl rfl ?_
  | refine w_ld 1 hA ok rfl rfl rfl ?_
  | refine w_ld 2 hA ok rfl rfl rfl ?_
  | refine w_ld 3 hA ok rfl rfl rfl ?_
  | refine w_ld 4 hA ok rfl rfl rfl ?_
  | refine w_ld 5 hA ok rfl rfl rfl ?_
  | refine w_ld 6 hA ok rfl rfl rfl ?_
  | refine w_ld 7 hA ok rfl rfl rfl ?_
  | refine w_st 0 hA ok rfl rfl rfl rfl ?_
  | refine w_st 1 hA ok rfl rfl rfl rfl ?_
  | refine w_st 2 hA ok rfl rfl rfl rfl ?_
  | refine w_st 3 hA ok rfl rfl rfl rfl ?_
  | refine w_st 4 hA ok rfl rfl rfl rfl ?_
  | refine w_st 5 hA ok rfl rfl rfl rfl ?_
  | refine w_st 6 hA ok rfl rfl rfl rfl ?_
  | refine w_st 7 hA ok rfl rfl rfl rfl ?_
  | refine w_ldA 0 hA ok rfl rfl rfl ?_
  | refine w_ldA 1 hA ok rfl rfl rfl ?_
  | refine w_ldA 2 hA ok rfl rfl rfl ?_
  | refine w_ldA 3 hA ok rfl rfl rfl ?_
  | refine w_ldA 4 hA ok rfl rfl rfl ?_
  | refine w_ldA 5 hA ok rfl rfl rfl ?_
  | refine w_ldA 6 hA ok rfl rfl rfl ?_
  | refine w_ldA 7 hA ok rfl rfl rfl ?_
  | refine w_stA 0 hA ok rfl rfl rfl rfl ?_
  | refine w_stA 1 hA ok rfl rfl rfl rfl ?_
  | refine w_stA 2 hA ok rfl rfl rfl rfl ?_
  | refine w_stA 3 hA ok rfl rfl rfl rfl ?_
  | refine w_stA 4 hA ok rfl rfl rfl rfl ?_
  | refine w_stA 5 hA ok rfl rfl rfl rfl ?_
  | refine w_stA 6 hA ok rfl rfl rfl rfl ?_
  | refine w_stA 7 hA ok rfl rfl rfl rfl ?_
  | (refine w_Raw hA ?_; intro hA)
  | (refine w_SetRaw hA ?_; intro hA)
  | (refine w_SwapRaw hA ?_; intro hA)
  | (refine w_AddRaw hA ?_; intro hA)
  | (refine w_Load hA ?_; intro hA)
  | (refine w_Store hA ?_; intro hA)
  | (refine w_Retire hA ?_; intro hA)
  | (refine w_Died hA ?_; intro hA)
  | (refine w_Born hA ?_; intro hA)
  | refine w_State hA ?_
  | refine w_Uses hA ?_
  | refine w_Fault hA ?_
  | refine w_Words hA ?_
  | refine w_Count hA ?_
  | refine wq_Size ?_
  | refine wq_Open ?_
  | refine wq_Pack ?_
  | refine wq_head ?_
  | refine w_ck 0 hA ok rfl rfl rfl ?_
  | refine w_ck 1 hA ok rfl rfl rfl ?_
  | refine w_ck 2 hA ok rfl rfl rfl ?_
  | refine w_ck 3 hA ok rfl rfl rfl ?_
  | refine w_ck 4 hA ok rfl rfl rfl ?_
  | refine w_ck 5 hA ok rfl rfl rfl ?_
  | refine w_ck 6 hA ok rfl rfl rfl ?_
  | refine w_ck 7 hA ok rfl rfl rfl ?_
  | refine w_ckn rfl ?_
  | refine w_Base 0 1 hA ok rfl rfl ?_
  | refine w_Base 1 2 hA ok rfl rfl ?_
  | refine w_Base 2 3 hA ok rfl rfl ?_
  | refine w_Base 3 4 hA ok rfl rfl ?_
  | refine w_Base 4 5 hA ok rfl rfl ?_
  | refine w_Base 5 6 hA ok rfl rfl ?_
  | (refine w_PopStep 0 1 hA ok rfl rfl ?_; intro hA)
  | (refine w_PopStep 1 2 hA ok rfl rfl ?_; intro hA)
  | (refine w_PopStep 2 3 hA ok rfl rfl ?_; intro hA)
  | (refine w_PopStep 3 4 hA ok rfl rfl ?_; intro hA)
  | (refine w_PopStep 4 5 hA ok rfl rfl ?_; intro hA)
  | (refine w_PopStep 5 6 hA ok rfl rfl ?_; intro hA)
  | (refine w_PushStep 0 1 hA ok rfl rfl ?_; intro hA)
  | (refine w_PushStep 1 2 hA ok rfl rfl ?_; intro hA)
  | (refine w_PushStep 2 3 hA ok rfl rfl ?_; intro hA)
  | (refine w_PushStep 3 4 hA ok rfl rfl ?_; intro hA)
  | (refine w_PushStep 4 5 hA ok rfl rfl ?_; intro hA)
  | (refine w_PushStep 5 6 hA ok rfl rfl ?_; intro hA)
  | refine wp_true (by assumption) ?_
  | refine wp_false (by assumption) ?_)
      rw [if_pos hz]
      exact wp_ret_of ⟨{ j with fs := loSl j.fs 1, fj := js, tds := (f.step A).1.bl jf' ++ j.tds }, rfl, rfl, rfl, ok, ⟨rp.ls, tl1, rp.ds.mono fun p hp => List.mem_append_right _ hp, hfl, fun h => (by have h : 4 ≤ 2 := h; omega)⟩, hA⟩
    · refine wp_false (ibef (by show (((loSl j.fs 1).len : Nat) : Int) ≠ 0; rw [hle, ← hfl]; have := List.length_pos_iff.2 hz; omega)) ?_
      rw [if_neg hz]
      refine wp_ret_of ⟨{ j with fs := loSl j.fs 1, fj := js, tds := (f.step A).1.bl jf' ++ j.tds }, rfl, ?_, rfl, ok, ⟨rp.ls, tl1, rp.ds.mono fun p hp => List.mem_append_right _ hp, hfl, fun h => (by have h : 3 ≤ 2 := h; omega)⟩, hA⟩
      have e : tnNext j.q m.ph = tnNext j.q 3 := by rw [hp]
      show own _ ((j.q, oc ty_epoch_Turn (tnC m.tw m.ta m.pl m.work m.e m.word j.ls (loSl j.fs 1) j.ds (tnNext j.q m.ph))) :: _) G = _
      rw [e]; rfl
  · rw [if_neg hd]
    refine wp_false (by simpa using hd) ?_
    obtain ⟨p2, ok5⟩ := own_perm (A := (f.step A).2) (l' := (j.q, oc ty_epoch_Turn (m.cells j)) :: (((f.step A).1.bl jf' ++ fbl fs js) ++ (j.tls ++ (j.tfs ++ j.tds)))) o4 (perm_by fun c d c0 cd ca => by simp only [cd, ca, c0]; omega)
    have ok := ok5
    have p3 : own (f.step A).2 (Fe.bl (f.step A).1 jf' ++ ((j.q, oc ty_epoch_Turn (m.cells j)) :: (fbl fs js ++ (j.tls ++ (j.tfs ++ j.tds))))) G = _ := p2
    rw [p3]
    repeat (first
  | refine wp_nil.2 ?_
  | refine w_ld 0 hA ok rfl rfl rfl ?_
  | refine w_ld 1 hA ok rfl rfl rfl ?_
  | refine w_ld 2 hA ok rfl rfl rfl ?_
  | refine w_ld 3 hA ok rfl rfl rfl ?_
  | refine w_ld 4 hA ok rfl rfl rfl ?_
  | refine w_ld 5 hA ok rfl rfl rfl ?_
  | refine w_ld 6 hA ok rfl rfl rfl ?_
  | refine w_ld 7 hA ok rfl rfl rfl ?_
  | refine w_st 0 hA ok rfl rfl rfl rfl ?_
  | refine w_st 1 hA ok rfl rfl rfl rfl ?_
  | refine w_st 2 hA ok rfl rfl rfl rfl ?_
  | refine w_st 3 hA ok rfl rfl rfl rfl ?_
  | refine w_st 4 hA ok rfl rfl rfl rfl ?_
  | refine w_st 5 hA ok rfl rfl rfl rfl ?_
  | refine w_st 6 hA ok rfl rfl rfl rfl ?_
  | refine w_st 7 hA ok rfl rfl rfl rfl ?_
  | refine w_ldA 0 hA ok rfl rfl rfl ?_
  | refine w_ldA 1 hA ok rfl rfl rfl ?_
  | refine w_ldA 2 hA ok rfl rfl rfl ?_
  | refine w_ldA 3 hA ok rfl rfl rfl ?_
  | refine w_ldA 4 hA ok rfl rfl rfl ?_
  | refine w_ldA 5 hA ok rfl rfl rfl ?_
  | refine w_ldA 6 hA ok rfl rfl rfl ?_
  | refine w_ldA 7 hA ok rfl rfl rfl ?_
  | refine w_stA 0 hA ok rfl rfl rfl rfl ?_
  | refine w_stA 1 hA ok rfl rfl rfl rfl ?_
  | refine w_stA 2 hA ok rfl rfl rfl rfl ?_
  | refine w_stA 3 hA ok rfl rfl rfl rfl ?_
  | refine w_stA 4 hA ok rfl rfl rfl rfl ?_
  | refine w_stA 5 hA ok rfl rfl rfl rfl ?_
  | refine w_stA 6 hA ok rfl rfl rfl rfl ?_
  | refine w_stA 7 hA ok rfl rfl rfl rfl ?_
  | (refine w_Raw hA ?_; intro hA)
  | (refine w_SetRaw hA ?_; intro hA)
  | (refine w_SwapRaw hA ?_; intro hA)
  | (refine w_AddRaw hA ?_; intro hA)
  | (refine w_Load hA ?_; intro hA)
  | (refine w_Store hA ?_; intro hA)
  | (refine w_Retire hA ?_; intro hA)
  | (refine w_Died hA ?_; intro hA)
  | (refine w_Born hA ?_; intro hA)
  | refine w_State hA ?_
  | refine w_Uses hA ?_
  | refine w_Fault hA ?_
  | refine w_Words hA ?_
  | refine w_Count hA ?_
  | refine wq_Size ?_
  | refine wq_Open ?_
  | refine wq_Pack ?_
  | refine wq_head ?_
  | refine w_ck 0 hA ok rfl rfl rfl ?_
  | refine w_ck 1 hA ok rfl rfl rfl ?_
  | refine w_ck 2 hA ok rfl rfl rfl ?_
  | refine w_ck 3 hA ok rfl rfl rfl ?_
  | refine w_ck 4 hA ok rfl rfl rfl ?_
  | refine w_ck 5 hA ok rfl rfl rfl ?_
  | refine w_ck 6 hA ok rfl rfl rfl ?_
  | refine w_ck 7 hA ok rfl rfl rfl ?_
  | refine w_ckn rfl ?_
  | refine w_Base 0 1 hA ok rfl rfl ?_
  | refine w_Base 1 2 hA ok rfl rfl ?_
  | refine w_Base 2 3 hA ok rfl rfl ?_
  | refine w_Base 3 4 hA ok rfl rfl ?_
  | refine w_Base 4 5 hA ok rfl rfl ?_
  | refine w_Base 5 6 hA ok rfl rfl ?_
  | (refine w_PopStep 0 1 hA ok rfl rfl ?_; intro hA)
  | (refine w_PopStep 1 2 hA ok rfl rfl ?_; intro hA)
  | (refine w_PopStep 2 3 hA ok rfl rfl ?_; intro hA)
  | (refine w_PopStep 3 4 hA ok rfl rfl ?_; intro hA)
  | (refine w_PopStep 4 5 hA ok rfl rfl ?_; intro hA)
  | (refine w_PopStep 5 6 hA ok rfl rfl ?_; intro hA)
  | (refine w_PushStep 0 1 hA ok rfl rfl ?_; intro hA)
  | (refine w_PushStep 1 2 hA ok rfl rfl ?_; intro hA)
  | (refine w_PushStep 2 3 hA ok rfl rfl ?_; intro hA)
  | (refine w_PushStep 3 4 hA ok rfl rfl ?_; intro hA)
  | (refine w_PushStep 4 5 hA ok rfl rfl ?_; intro hA)
  | (refine w_PushStep 5 6 hA ok rfl rfl ?_; intro hA)
  | refine wp_true (by assumption) ?_
  | refine wp_false (by assumption) ?_)
    have hle := rfs.len
    refine wp_false (ibef (by show ((j.fs.len : Nat) : Int) ≠ 0; omega)) ?_
    refine wp_ret_of ⟨{ j with fj := jf' :: js }, rfl, rfl, rfl, ok, ⟨rp.ls, ?_, rp.ds, ?_, fun h => (by have h : m.ph ≤ 2 := h; omega)⟩, hA⟩
    · show SlAt j.tfs ty_p_slab_Free eP j.fs (jf'.1 :: js.map (·.1))
      rw [show jf'.1 = jf.1 from ej]; exact rfs
    · show ((f.step A).1 :: fs).length = (jf' :: js).length
      simp [hfl]

theorem mTn_ok : mTn.ok := by
  rintro I A G m j hA ok rp ⟨ll, un, fr⟩
  have ok : Ok I G (keys (m.bl j)) := ok
  have rp : m.rep j := rp
  have key : ∀ (f : FuncId) {m1 : Tn} {A1 : Ar}, m.step A = (m1, A1) → m.ph < 4 → SpecF Try.prog f #[.pointer (some ⟨j.q, 0, none⟩), .pointer (aI I)] (own A (m.bl j) G) (TPost I G j m1 A1) →
      opS Try.prog (.call { callee := .value (.tmp 0), args := #[(.tmp 1)], argTypes := #[ty_p_arena_Arena] }) ty_unit [tnNext j.q m.ph, .pointer (aI I)] = .pure (.enter f [.pointer (some ⟨j.q, 0, none⟩), .pointer (aI I)].toArray) →
      SpecF Try.prog f_epoch_Turn_Step #[.pointer (some ⟨j.q, 0, none⟩), .pointer (aI I)] (own A (m.bl j) G) fun v K => ∃ j' : TnJ, v = .bool (decide (4 ≤ (m.step A).1.ph)) ∧ K = own (m.step A).2 ((m.step A).1.bl j') G ∧ j'.q = j.q ∧ Ok I G (keys ((m.step A).1.bl j')) ∧ (m.step A).1.rep j' ∧ Aw I (m.step A).2 := by
    intro f m1 A1 hst hp hs hc
    rw [hst]
    refine t_epoch_Turn_Step_spec fun L => ?_
    unfold t_epoch_Turn_Step
    unfold Tn.bl at ok ⊢
    repeat (first
  | refine wp_nil.2 ?_
  | refine w_ld 0 hA ok rfl rfl rfl ?_
  | refine w_ld 1 hA ok rfl rfl rfl ?_
  | refine w_ld 2 hA ok rfl rfl rfl ?_
  | refine w_ld 3 hA ok rfl rfl rfl ?_
  | refine w_ld 4 hA ok rfl rfl rfl ?_
  | refine w_ld 5 hA ok rfl rfl rfl ?_
  | refine w_ld 6 hA ok rfl rfl rfl ?_
  | refine w_ld 7 hA ok rfl rfl rfl ?_
  | refine w_st 0 hA ok rfl rfl rfl rfl ?_
  | refine w_st 1 hA ok rfl rfl rfl rfl ?_
  | refine w_st 2 hA ok rfl rfl rfl rfl ?_
  | refine w_st 3 hA ok rfl rfl rfl rfl ?_
  | refine w_st 4 hA ok rfl rfl rfl rfl ?_
  | refine w_st 5 hA ok rfl rfl rfl rfl ?_
  | refine w_st 6 hA ok rfl rfl rfl rfl ?_
  | refine w_st 7 hA ok rfl rfl rfl rfl ?_
  | refine w_ldA 0 hA ok rfl rfl rfl ?_
  | refine w_ldA 1 hA ok rfl rfl rfl ?_
  | refine w_ldA 2 hA ok rfl rfl rfl ?_
  | refine w_ldA 3 hA ok rfl rfl rfl ?_
  | refine w_ldA 4 hA ok rfl rfl rfl ?_
  | refine w_ldA 5 hA ok rfl rfl rfl ?_
  | refine w_ldA 6 hA ok rfl rfl rfl ?_
  | refine w_ldA 7 hA ok rfl rfl rfl ?_
  | refine w_stA 0 hA ok rfl rfl rfl rfl ?_
  | refine w_stA 1 hA ok rfl rfl rfl rfl ?_
  | refine w_stA 2 hA ok rfl rfl rfl rfl ?_
  | refine w_stA 3 hA ok rfl rfl rfl rfl ?_
  | refine w_stA 4 hA ok rfl rfl rfl rfl ?_
  | refine w_stA 5 hA ok rfl rfl rfl rfl ?_
  | refine w_stA 6 hA ok rfl rfl rfl rfl ?_
  | refine w_stA 7 hA ok rfl rfl rfl rfl ?_
  | (refine w_Raw hA ?_; intro hA)
  | (refine w_SetRaw hA ?_; intro hA)
  | (refine w_SwapRaw hA ?_; intro hA)
  | (refine w_AddRaw hA ?_; intro hA)
  | (refine w_Load hA ?_; intro hA)
  | (refine w_Store hA ?_; intro hA)
  | (refine w_Retire hA ?_; intro hA)
  | (refine w_Died hA ?_; intro hA)
  | (refine w_Born hA ?_; intro hA)
  | refine w_State hA ?_
  | refine w_Uses hA ?_
  | refine w_Fault hA ?_
  | refine w_Words hA ?_
  | refine w_Count hA ?_
  | refine wq_Size ?_
  | refine wq_Open ?_
  | refine wq_Pack ?_
  | refine wq_head ?_
  | refine w_ck 0 hA ok rfl rfl rfl ?_
  | refine w_ck 1 hA ok rfl rfl rfl ?_
  | refine w_ck 2 hA ok rfl rfl rfl ?_
  | refine w_ck 3 hA ok rfl rfl rfl ?_
  | refine w_ck 4 hA ok rfl rfl rfl ?_
  | refine w_ck 5 hA ok rfl rfl rfl ?_
  | refine w_ck 6 hA ok rfl rfl rfl ?_
  | refine w_ck 7 hA ok rfl rfl rfl ?_
  | refine w_ckn rfl ?_
  | refine w_Base 0 1 hA ok rfl rfl ?_
  | refine w_Base 1 2 hA ok rfl rfl ?_
  | refine w_Base 2 3 hA ok rfl rfl ?_
  | refine w_Base 3 4 hA ok rfl rfl ?_
  | refine w_Base 4 5 hA ok rfl rfl ?_
  | refine w_Base 5 6 hA ok rfl rfl ?_
  | (refine w_PopStep 0 1 hA ok rfl rfl ?_; intro hA)
  | (refine w_PopStep 1 2 hA ok rfl rfl ?_; intro hA)
  | (refine w_PopStep 2 3 hA ok rfl rfl ?_; intro hA)
  | (refine w_PopStep 3 4 hA ok rfl rfl ?_; intro hA)
  | (refine w_PopStep 4 5 hA ok rfl rfl ?_; intro hA)
  | (refine w_PopStep 5 6 hA ok rfl rfl ?_; intro hA)
  | (refine w_PushStep 0 1 hA ok rfl rfl ?_; intro hA)
  | (refine w_PushStep 1 2 hA ok rfl rfl ?_; intro hA)
  | (refine w_PushStep 2 3 hA ok rfl rfl ?_; intro hA)
  | (refine w_PushStep 3 4 hA ok rfl rfl ?_; intro hA)
  | (refine w_PushStep 4 5 hA ok rfl rfl ?_; intro hA)
  | (refine w_PushStep 5 6 hA ok rfl rfl ?_; intro hA)
  | refine wp_true (by assumption) ?_
  | refine wp_false (by assumption) ?_)
    refine look_val (x := decide (m.ph < 4)) (tneq _ _) (wp_true (decide_eq_true hp) ?_)
    repeat (first
  | refine wp_nil.2 ?_
  | refine w_ld 0 hA ok rfl rfl rfl ?_
  | refine w_ld 1 hA ok rfl rfl rfl ?_
  | refine w_ld 2 hA ok rfl rfl rfl ?_
  | refine w_ld 3 hA ok rfl rfl rfl ?_
  | refine w_ld 4 hA ok rfl rfl rfl ?_
  | refine w_ld 5 hA ok rfl rfl rfl ?_
  | refine w_ld 6 hA ok rfl rfl rfl ?_
  | refine w_ld 7 hA ok rfl rfl rfl ?_
  | refine w_st 0 hA ok rfl rfl rfl rfl ?_
  | refine w_st 1 hA ok rfl rfl rfl rfl ?_
  | refine w_st 2 hA ok rfl rfl rfl rfl ?_
  | refine w_st 3 hA ok rfl rfl rfl rfl ?_
  | refine w_st 4 hA ok rfl rfl rfl rfl ?_
  | refine w_st 5 hA ok rfl rfl rfl rfl ?_
  | refine w_st 6 hA ok rfl rfl rfl rfl ?_
  | refine w_st 7 hA ok rfl rfl rfl rfl ?_
  | refine w_ldA 0 hA ok rfl rfl rfl ?_
  | refine w_ldA 1 hA ok rfl rfl rfl ?_
  | refine w_ldA 2 hA ok rfl rfl rfl ?_
  | refine w_ldA 3 hA ok rfl rfl rfl ?_
  | refine w_ldA 4 hA ok rfl rfl rfl ?_
  | refine w_ldA 5 hA ok rfl rfl rfl ?_
  | refine w_ldA 6 hA ok rfl rfl rfl ?_
  | refine w_ldA 7 hA ok rfl rfl rfl ?_
  | refine w_stA 0 hA ok rfl rfl rfl rfl ?_
  | refine w_stA 1 hA ok rfl rfl rfl rfl ?_
  | refine w_stA 2 hA ok rfl rfl rfl rfl ?_
  | refine w_stA 3 hA ok rfl rfl rfl rfl ?_
  | refine w_stA 4 hA ok rfl rfl rfl rfl ?_
  | refine w_stA 5 hA ok rfl rfl rfl rfl ?_
  | refine w_stA 6 hA ok rfl rfl rfl rfl ?_
  | refine w_stA 7 hA ok rfl rfl rfl rfl ?_
  | (refine w_Raw hA ?_; intro hA)
  | (refine w_SetRaw hA ?_; intro hA)
  | (refine w_SwapRaw hA ?_; intro hA)
  | (refine w_AddRaw hA ?_; intro hA)
  | (refine w_Load hA ?_; intro hA)
  | (refine w_Store hA ?_; intro hA)
  | (refine w_Retire hA ?_; intro hA)
  | (refine w_Died hA ?_; intro hA)
  | (refine w_Born hA ?_; intro hA)
  | refine w_State hA ?_
  | refine w_Uses hA ?_
  | refine w_Fault hA ?_
  | refine w_Words hA ?_
  | refine w_Count hA ?_
  | refine wq_Size ?_
  | refine wq_Open ?_
  | refine wq_Pack ?_
  | refine wq_head ?_
  | refine w_ck 0 hA ok rfl rfl rfl ?_
  | refine w_ck 1 hA ok rfl rfl rfl ?_
  | refine w_ck 2 hA ok rfl rfl rfl ?_
  | refine w_ck 3 hA ok rfl rfl rfl ?_
  | refine w_ck 4 hA ok rfl rfl rfl ?_
  | refine w_ck 5 hA ok rfl rfl rfl ?_
  | refine w_ck 6 hA ok rfl rfl rfl ?_
  | refine w_ck 7 hA ok rfl rfl rfl ?_
  | refine w_ckn rfl ?_
  | refine w_Base 0 1 hA ok rfl rfl ?_
  | refine w_Base 1 2 hA ok rfl rfl ?_
  | refine w_Base 2 3 hA ok rfl rfl ?_
  | refine w_Base 3 4 hA ok rfl rfl ?_
  | refine w_Base 4 5 hA ok rfl rfl ?_
  | refine w_Base 5 6 hA ok rfl rfl ?_
  | (refine w_PopStep 0 1 hA ok rfl rfl ?_; intro hA)
  | (refine w_PopStep 1 2 hA ok rfl rfl ?_; intro hA)
  | (refine w_PopStep 2 3 hA ok rfl rfl ?_; intro hA)
  | (refine w_PopStep 3 4 hA ok rfl rfl ?_; intro hA)
  | (refine w_PopStep 4 5 hA ok rfl rfl ?_; intro hA)
  | (refine w_PopStep 5 6 hA ok rfl rfl ?_; intro hA)
  | (refine w_PushStep 0 1 hA ok rfl rfl ?_; intro hA)
  | (refine w_PushStep 1 2 hA ok rfl rfl ?_; intro hA)
  | (refine w_PushStep 2 3 hA ok rfl rfl ?_; intro hA)
  | (refine w_PushStep 3 4 hA ok rfl rfl ?_; intro hA)
  | (refine w_PushStep 4 5 hA ok rfl rfl ?_; intro hA)
  | (refine w_PushStep 5 6 hA ok rfl rfl ?_; intro hA)
  | refine wp_true (by assumption) ?_
  | refine wp_false (by assumption) ?_)
    refine act_enter hc ?_
    refine wp_call_of hs ?_
    rintro v K ⟨j', rfl, rfl, eq, ok', rp', hA'⟩
    refine ⟨(), rfl, ?_⟩
    have ok := ok'
    have hA := hA'
    rw [← eq]
    unfold Tn.bl at ok ⊢
    repeat (first
  | refine wp_nil.2 ?_
  | refine w_ld 0 hA ok rfl rfl rfl ?_
  | refine w_ld 1 hA ok rfl rfl rfl ?_
  | refine w_ld 2 hA ok rfl rfl rfl ?_
  | refine w_ld 3 hA ok rfl rfl rfl ?_
  | refine w_ld 4 hA ok rfl rfl rfl ?_
  | refine w_ld 5 hA ok rfl rfl rfl ?_
  | refine w_ld 6 hA ok rfl rfl rfl ?_
  | refine w_ld 7 hA ok rfl rfl rfl ?_
  | refine w_st 0 hA ok rfl rfl rfl rfl ?_
  | refine w_st 1 hA ok rfl rfl rfl rfl ?_
  | refine w_st 2 hA ok rfl rfl rfl rfl ?_
  | refine w_st 3 hA ok rfl rfl rfl rfl ?_
  | refine w_st 4 hA ok rfl rfl rfl rfl ?_
  | refine w_st 5 hA ok rfl rfl rfl rfl ?_
  | refine w_st 6 hA ok rfl rfl rfl rfl ?_
  | refine w_st 7 hA ok rfl rfl rfl rfl ?_
  | refine w_ldA 0 hA ok rfl rfl rfl ?_
  | refine w_ldA 1 hA ok rfl rfl rfl ?_
  | refine w_ldA 2 hA ok rfl rfl rfl ?_
  | refine w_ldA 3 hA ok rfl rfl rfl ?_
  | refine w_ldA 4 hA ok rfl rfl rfl ?_
  | refine w_ldA 5 hA ok rfl rfl rfl ?_
  | refine w_ldA 6 hA ok rfl rfl rfl ?_
  | refine w_ldA 7 hA ok rfl rfl rfl ?_
  | refine w_stA 0 hA ok rfl rfl rfl rfl ?_
  | refine w_stA 1 hA ok rfl rfl rfl rfl ?_
  | refine w_stA 2 hA ok rfl rfl rfl rfl ?_
  | refine w_stA 3 hA ok rfl rfl rfl rfl ?_
  | refine w_stA 4 hA ok rfl rfl rfl rfl ?_
  | refine w_stA 5 hA ok rfl rfl rfl rfl ?_
  | refine w_stA 6 hA ok rfl rfl rfl rfl ?_
  | refine w_stA 7 hA ok rfl rfl rfl rfl ?_
  | (refine w_Raw hA ?_; intro hA)
  | (refine w_SetRaw hA ?_; intro hA)
  | (refine w_SwapRaw hA ?_; intro hA)
  | (refine w_AddRaw hA ?_; intro hA)
  | (refine w_Load hA ?_; intro hA)
  | (refine w_Store hA ?_; intro hA)
  | (refine w_Retire hA ?_; intro hA)
  | (refine w_Died hA ?_; intro hA)
  | (refine w_Born hA ?_; intro hA)
  | refine w_State hA ?_
  | refine w_Uses hA ?_
  | refine w_Fault hA ?_
  | refine w_Words hA ?_
  | refine w_Count hA ?_
  | refine wq_Size ?_
  | refine wq_Open ?_
  | refine wq_Pack ?_
  | refine wq_head ?_
  | refine w_ck 0 hA ok rfl rfl rfl ?_
  | refine w_ck 1 hA ok rfl rfl rfl ?_
  | refine w_ck 2 hA ok rfl rfl rfl ?_
  | refine w_ck 3 hA ok rfl rfl rfl ?_
  | refine w_ck 4 hA ok rfl rfl rfl ?_
  | refine w_ck 5 hA ok rfl rfl rfl ?_
  | refine w_ck 6 hA ok rfl rfl rfl ?_
  | refine w_ck 7 hA ok rfl rfl rfl ?_
  | refine w_ckn rfl ?_
  | refine w_Base 0 1 hA ok rfl rfl ?_
  | refine w_Base 1 2 hA ok rfl rfl ?_
  | refine w_Base 2 3 hA ok rfl rfl ?_
  | refine w_Base 3 4 hA ok rfl rfl ?_
  | refine w_Base 4 5 hA ok rfl rfl ?_
  | refine w_Base 5 6 hA ok rfl rfl ?_
  | (refine w_PopStep 0 1 hA ok rfl rfl ?_; intro hA)
  | (refine w_PopStep 1 2 hA ok rfl rfl ?_; intro hA)
  | (refine w_PopStep 2 3 hA ok rfl rfl ?_; intro hA)
  | (refine w_PopStep 3 4 hA ok rfl rfl ?_; intro hA)
  | (refine w_PopStep 4 5 hA ok rfl rfl ?_; intro hA)
  | (refine w_PopStep 5 6 hA ok rfl rfl ?_; intro hA)
  | (refine w_PushStep 0 1 hA ok rfl rfl ?_; intro hA)
  | (refine w_PushStep 1 2 hA ok rfl rfl ?_; intro hA)
  | (refine w_PushStep 2 3 hA ok rfl rfl ?_; intro hA)
  | (refine w_PushStep 3 4 hA ok rfl rfl ?_; intro hA)
  | (refine w_PushStep 4 5 hA ok rfl rfl ?_; intro hA)
  | (refine w_PushStep 5 6 hA ok rfl rfl ?_; intro hA)
  | refine wp_true (by assumption) ?_
  | refine wp_false (by assumption) ?_)
    refine look_val (x := decide (4 ≤ m1.ph)) (teq _ _) ?_
    exact wp_ret_of ⟨j', rfl, rfl, rfl, ok', rp', hA'⟩
  show SpecF Try.prog f_epoch_Turn_Step #[.pointer (some ⟨j.q, 0, none⟩), .pointer (aI I)] (own A (m.bl j) G) fun v K => ∃ j' : TnJ, v = .bool (decide (4 ≤ (m.step A).1.ph)) ∧ K = own (m.step A).2 ((m.step A).1.bl j') G ∧ j'.q = j.q ∧ Ok I G (keys ((m.step A).1.bl j')) ∧ (m.step A).1.rep j' ∧ Aw I (m.step A).2
  by_cases h0 : m.ph = 0
  · refine key f_epoch_Turn_global (by unfold Tn.step; rw [if_pos h0]) (by omega) (tglobal_spec m j hA ok rp h0) ?_
    rw [h0]; exact tcall0 _ _
  by_cases h1 : m.ph = 1
  · obtain ⟨u1, u2⟩ := un (by omega)
    refine key f_epoch_Turn_look (by unfold Tn.step; rw [if_neg h0, if_pos h1]) (by omega) (tlook_spec m j hA ok rp h1 u1 u2 ll) ?_
    rw [h1]; exact tcall1 _ _
  by_cases h2 : m.ph = 2
  · obtain ⟨u1, u2⟩ := un (by omega)
    refine key f_epoch_Turn_swap (by unfold Tn.step; rw [if_neg h0, if_neg h1, if_pos h2]) (by omega) (tswap_spec m j hA ok rp h2 u1 u2 ll) ?_
    rw [h2]; exact tcall2 _ _
  by_cases h3 : m.ph = 3
  · obtain ⟨f, fs, efs⟩ : ∃ f fs, m.frees = f :: fs := by
      cases h : m.frees with
      | nil => exact (fr h3 h).elim
      | cons f fs => exact ⟨f, fs, rfl⟩
    refine key f_epoch_Turn_free ?_ (by omega) (tfree_spec m j hA ok rp h3 efs) ?_
    · unfold Tn.step; rw [if_neg h0, if_neg h1, if_neg h2, if_pos h3, efs]
      dsimp only
      split <;> rfl
    · rw [h3]; exact tcall3 _ _
  have hst : m.step A = (m, A) := by unfold Tn.step; rw [if_neg h0, if_neg h1, if_neg h2, if_neg h3]
  rw [hst]
  refine t_epoch_Turn_Step_spec fun L => ?_
  unfold t_epoch_Turn_Step
  unfold Tn.bl at ok ⊢
  repeat (first
  | refine wp_nil.2 ?_
  | refine w_ld 0 hA ok rfl rfl rfl ?_
  | refine w_ld 1 hA ok rfl rfl rfl ?_
  | refine w_ld 2 hA ok rfl rfl rfl ?_
  | refine w_ld 3 hA ok rfl rfl rfl ?_
  | refine w_ld 4 hA ok rfl rfl rfl ?_
  | refine w_ld 5 hA ok rfl rfl rfl ?_
  | refine w_ld 6 hA ok rfl rfl rfl ?_
  | refine w_ld 7 hA ok rfl rfl rfl ?_
  | refine w_st 0 hA ok rfl rfl rfl rfl ?_
  | refine w_st 1 hA ok rfl rfl rfl rfl ?_
  | refine w_st 2 hA ok rfl rfl rfl rfl ?_
  | refine w_st 3 hA ok rfl rfl rfl rfl ?_
  | refine w_st 4 hA ok rfl rfl rfl rfl ?_
  | refine w_st 5 hA ok rfl rfl rfl rfl ?_
  | refine w_st 6 hA ok rfl rfl rfl rfl ?_
  | refine w_st 7 hA ok rfl rfl rfl rfl ?_
  | refine w_ldA 0 hA ok rfl rfl rfl ?_
  | refine w_ldA 1 hA ok rfl rfl rfl ?_
  | refine w_ldA 2 hA ok rfl rfl rfl ?_
  | refine w_ldA 3 hA ok rfl rfl rfl ?_
  | refine w_ldA 4 hA ok rfl rfl rfl ?_
  | refine w_ldA 5 hA ok rfl rfl rfl ?_
  | refine w_ldA 6 hA ok rfl rfl rfl ?_
  | refine w_ldA 7 hA ok rfl rfl rfl ?_
  | refine w_stA 0 hA ok rfl rfl rfl rfl ?_
  | refine w_stA 1 hA ok rfl rfl rfl rfl ?_
  | refine w_stA 2 hA ok rfl rfl rfl rfl ?_
  | refine w_stA 3 hA ok rfl rfl rfl rfl ?_
  | refine w_stA 4 hA ok rfl rfl rfl rfl ?_
  | refine w_stA 5 hA ok rfl rfl rfl rfl ?_
  | refine w_stA 6 hA ok rfl rfl rfl rfl ?_
  | refine w_stA 7 hA ok rfl rfl rfl rfl ?_
  | (refine w_Raw hA ?_; intro hA)
  | (refine w_SetRaw hA ?_; intro hA)
  | (refine w_SwapRaw hA ?_; intro hA)
  | (refine w_AddRaw hA ?_; intro hA)
  | (refine w_Load hA ?_; intro hA)
  | (refine w_Store hA ?_; intro hA)
  | (refine w_Retire hA ?_; intro hA)
  | (refine w_Died hA ?_; intro hA)
  | (refine w_Born hA ?_; intro hA)
  | refine w_State hA ?_
  | refine w_Uses hA ?_
  | refine w_Fault hA ?_
  | refine w_Words hA ?_
  | refine w_Count hA ?_
  | refine wq_Size ?_
  | refine wq_Open ?_
  | refine wq_Pack ?_
  | refine wq_head ?_
  | refine w_ck 0 hA ok rfl rfl rfl ?_
  | refine w_ck 1 hA ok rfl rfl rfl ?_
  | refine w_ck 2 hA ok rfl rfl rfl ?_
  | refine w_ck 3 hA ok rfl rfl rfl ?_
  | refine w_ck 4 hA ok rfl rfl rfl ?_
  | refine w_ck 5 hA ok rfl rfl rfl ?_
  | refine w_ck 6 hA ok rfl rfl rfl ?_
  | refine w_ck 7 hA ok rfl rfl rfl ?_
  | refine w_ckn rfl ?_
  | refine w_Base 0 1 hA ok rfl rfl ?_
  | refine w_Base 1 2 hA ok rfl rfl ?_
  | refine w_Base 2 3 hA ok rfl rfl ?_
  | refine w_Base 3 4 hA ok rfl rfl ?_
  | refine w_Base 4 5 hA ok rfl rfl ?_
  | refine w_Base 5 6 hA ok rfl rfl ?_
  | (refine w_PopStep 0 1 hA ok rfl rfl ?_; intro hA)
  | (refine w_PopStep 1 2 hA ok rfl rfl ?_; intro hA)
  | (refine w_PopStep 2 3 hA ok rfl rfl ?_; intro hA)
  | (refine w_PopStep 3 4 hA ok rfl rfl ?_; intro hA)
  | (refine w_PopStep 4 5 hA ok rfl rfl ?_; intro hA)
  | (refine w_PopStep 5 6 hA ok rfl rfl ?_; intro hA)
  | (refine w_PushStep 0 1 hA ok rfl rfl ?_; intro hA)
  | (refine w_PushStep 1 2 hA ok rfl rfl ?_; intro hA)
  | (refine w_PushStep 2 3 hA ok rfl rfl ?_; intro hA)
  | (refine w_PushStep 3 4 hA ok rfl rfl ?_; intro hA)
  | (refine w_PushStep 4 5 hA ok rfl rfl ?_; intro hA)
  | (refine w_PushStep 5 6 hA ok rfl rfl ?_; intro hA)
  | refine wp_true (by assumption) ?_
  | refine wp_false (by assumption) ?_)
  refine look_val (x := decide (m.ph < 4)) (tneq _ _) (wp_false (decide_eq_false (by omega)) ?_)
  repeat (first
  | refine wp_nil.2 ?_
  | refine w_ld 0 hA ok rfl rfl rfl ?_
  | refine w_ld 1 hA ok rfl rfl rfl ?_
  | refine w_ld 2 hA ok rfl rfl rfl ?_
  | refine w_ld 3 hA ok rfl rfl rfl ?_
  | refine w_ld 4 hA ok rfl rfl rfl ?_
  | refine w_ld 5 hA ok rfl rfl rfl ?_
  | refine w_ld 6 hA ok rfl rfl rfl ?_
  | refine w_ld 7 hA ok rfl rfl rfl ?_
  | refine w_st 0 hA ok rfl rfl rfl rfl ?_
  | refine w_st 1 hA ok rfl rfl rfl rfl ?_
  | refine w_st 2 hA ok rfl rfl rfl rfl ?_
  | refine w_st 3 hA ok rfl rfl rfl rfl ?_
  | refine w_st 4 hA ok rfl rfl rfl rfl ?_
  | refine w_st 5 hA ok rfl rfl rfl rfl ?_
  | refine w_st 6 hA ok rfl rfl rfl rfl ?_
  | refine w_st 7 hA ok rfl rfl rfl rfl ?_
  | refine w_ldA 0 hA ok rfl rfl rfl ?_
  | refine w_ldA 1 hA ok rfl rfl rfl ?_
  | refine w_ldA 2 hA ok rfl rfl rfl ?_
  | refine w_ldA 3 hA ok rfl rfl rfl ?_
  | refine w_ldA 4 hA ok rfl rfl rfl ?_
  | refine w_ldA 5 hA ok rfl rfl rfl ?_
  | refine w_ldA 6 hA ok rfl rfl rfl ?_
  | refine w_ldA 7 hA ok rfl rfl rfl ?_
  | refine w_stA 0 hA ok rfl rfl rfl rfl ?_
  | refine w_stA 1 hA ok rfl rfl rfl rfl ?_
  | refine w_stA 2 hA ok rfl rfl rfl rfl ?_
  | refine w_stA 3 hA ok rfl rfl rfl rfl ?_
  | refine w_stA 4 hA ok rfl rfl rfl rfl ?_
  | refine w_stA 5 hA ok rfl rfl rfl rfl ?_
  | refine w_stA 6 hA ok rfl rfl rfl rfl ?_
  | refine w_stA 7 hA ok rfl rfl rfl rfl ?_
  | (refine w_Raw hA ?_; intro hA)
  | (refine w_SetRaw hA ?_; intro hA)
  | (refine w_SwapRaw hA ?_; intro hA)
  | (refine w_AddRaw hA ?_; intro hA)
  | (refine w_Load hA ?_; intro hA)
  | (refine w_Store hA ?_; intro hA)
  | (refine w_Retire hA ?_; intro hA)
  | (refine w_Died hA ?_; intro hA)
  | (refine w_Born hA ?_; intro hA)
  | refine w_State hA ?_
  | refine w_Uses hA ?_
  | refine w_Fault hA ?_
  | refine w_Words hA ?_
  | refine w_Count hA ?_
  | refine wq_Size ?_
  | refine wq_Open ?_
  | refine wq_Pack ?_
  | refine wq_head ?_
  | refine w_ck 0 hA ok rfl rfl rfl ?_
  | refine w_ck 1 hA ok rfl rfl rfl ?_
  | refine w_ck 2 hA ok rfl rfl rfl ?_
  | refine w_ck 3 hA ok rfl rfl rfl ?_
  | refine w_ck 4 hA ok rfl rfl rfl ?_
  | refine w_ck 5 hA ok rfl rfl rfl ?_
  | refine w_ck 6 hA ok rfl rfl rfl ?_
  | refine w_ck 7 hA ok rfl rfl rfl ?_
  | refine w_ckn rfl ?_
  | refine w_Base 0 1 hA ok rfl rfl ?_
  | refine w_Base 1 2 hA ok rfl rfl ?_
  | refine w_Base 2 3 hA ok rfl rfl ?_
  | refine w_Base 3 4 hA ok rfl rfl ?_
  | refine w_Base 4 5 hA ok rfl rfl ?_
  | refine w_Base 5 6 hA ok rfl rfl ?_
  | (refine w_PopStep 0 1 hA ok rfl rfl ?_; intro hA)
  | (refine w_PopStep 1 2 hA ok rfl rfl ?_; intro hA)
  | (refine w_PopStep 2 3 hA ok rfl rfl ?_; intro hA)
  | (refine w_PopStep 3 4 hA ok rfl rfl ?_; intro hA)
  | (refine w_PopStep 4 5 hA ok rfl rfl ?_; intro hA)
  | (refine w_PopStep 5 6 hA ok rfl rfl ?_; intro hA)
  | (refine w_PushStep 0 1 hA ok rfl rfl ?_; intro hA)
  | (refine w_PushStep 1 2 hA ok rfl rfl ?_; intro hA)
  | (refine w_PushStep 2 3 hA ok rfl rfl ?_; intro hA)
  | (refine w_PushStep 3 4 hA ok rfl rfl ?_; intro hA)
  | (refine w_PushStep 4 5 hA ok rfl rfl ?_; intro hA)
  | (refine w_PushStep 5 6 hA ok rfl rfl ?_; intro hA)
  | refine wp_true (by assumption) ?_
  | refine wp_false (by assumption) ?_)
  refine look_val (x := decide (4 ≤ m.ph)) (teq _ _) ?_
  exact wp_ret_of ⟨j, rfl, rfl, rfl, ok, rp, hA⟩

def newTn (tw ta : Int) (p : Pl) (work : Int) (xs : List (Int × Int)) : Tn := ⟨tw, ta, p, work, 0, 0, xs, [], [], 0⟩

set_option maxHeartbeats 1000000 in
theorem w_NewTurn {tw ta work : Int} {p : Pl} {xs : List (Int × Int)} {s : Sl} {k : Option Addr → Tree} (hA : Aw I A) (ok : Ok I G (keys l)) (hs : SlOf l ty_epoch_Limbo eL s xs) (hm : xs.length ≤ 1000)
    (h : ∀ j : TnJ, Ok I G (keys ((newTn tw ta p work xs).bl j ++ l)) → (newTn tw ta p work xs).rep j → wp Try.prog (k (some ⟨j.q, 0, none⟩)) L (own A ((newTn tw ta p work xs).bl j ++ l) G) R) :
    wp Try.prog (.call f_epoch_NewTurn [.agg #[.int .i64 tw, .int .i64 ta], p.val, .int .i64 work, .slice s.a s.len s.cap] (.one (.leaf .ptr)) k) L (own A l G) R := by
  refine wp_call_of (R0 := fun v K => ∃ j : TnJ, v = .pointer (some ⟨j.q, 0, none⟩) ∧ K = own A ((newTn tw ta p work xs).bl j ++ l) G ∧ Ok I G (keys ((newTn tw ta p work xs).bl j ++ l)) ∧ (newTn tw ta p work xs).rep j) ?_ ?_
  · refine t_epoch_NewTurn_spec (p0_0 := tw) (p0_1 := ta) (p1_0 := p.work) (p1_1 := p.heads) (p1_2 := p.links) (p1_3 := p.gens) (p1_4 := p.carved) (p2 := work) (p3 := s) fun L => ?_
    unfold t_epoch_NewTurn
    have hsl := hs.len
    have ok0 := ok
    refine w_newP hA ok fun e1 ok => ?_
    refine w_newP hA ok fun e2 ok => ?_
    repeat (first
  | refine wp_nil.2 ?_
  | refine w_ld 0 hA ok rfl rfl rfl ?_
  | refine w_ld 1 hA ok rfl rfl rfl ?_
  | refine w_ld 2 hA ok rfl rfl rfl ?_
  | refine w_ld 3 hA ok rfl rfl rfl ?_
  | refine w_ld 4 hA ok rfl rfl rfl ?_
  | refine w_ld 5 hA ok rfl rfl rfl ?_
  | refine w_ld 6 hA ok rfl rfl rfl ?_
  | refine w_ld 7 hA ok rfl rfl rfl ?_
  | refine w_st 0 hA ok rfl rfl rfl rfl ?_
  | refine w_st 1 hA ok rfl rfl rfl rfl ?_
  | refine w_st 2 hA ok rfl rfl rfl rfl ?_
  | refine w_st 3 hA ok rfl rfl rfl rfl ?_
  | refine w_st 4 hA ok rfl rfl rfl rfl ?_
  | refine w_st 5 hA ok rfl rfl rfl rfl ?_
  | refine w_st 6 hA ok rfl rfl rfl rfl ?_
  | refine w_st 7 hA ok rfl rfl rfl rfl ?_
  | refine w_ldA 0 hA ok rfl rfl rfl ?_
  | refine w_ldA 1 hA ok rfl rfl rfl ?_
  | refine w_ldA 2 hA ok rfl rfl rfl ?_
  | refine w_ldA 3 hA ok rfl rfl rfl ?_
  | refine w_ldA 4 hA ok rfl rfl rfl ?_
  | refine w_ldA 5 hA ok rfl rfl rfl ?_
  | refine w_ldA 6 hA ok rfl rfl rfl ?_
  | refine w_ldA 7 hA ok rfl rfl rfl ?_
  | refine w_stA 0 hA ok rfl rfl rfl rfl ?_
  | refine w_stA 1 hA ok rfl rfl rfl rfl ?_
  | refine w_stA 2 hA ok rfl rfl rfl rfl ?_
  | refine w_stA 3 hA ok rfl rfl rfl rfl ?_
  | refine w_stA 4 hA ok rfl rfl rfl rfl ?_
  | refine w_stA 5 hA ok rfl rfl rfl rfl ?_
  | refine w_stA 6 hA ok rfl rfl rfl rfl ?_
  | refine w_stA 7 hA ok rfl rfl rfl rfl ?_
  | (refine w_Raw hA ?_; intro hA)
  | (refine w_SetRaw hA ?_; intro hA)
  | (refine w_SwapRaw hA ?_; intro hA)
  | (refine w_AddRaw hA ?_; intro hA)
  | (refine w_Load hA ?_; intro hA)
  | (refine w_Store hA ?_; intro hA)
  | (refine w_Retire hA ?_; intro hA)
  | (refine w_Died hA ?_; intro hA)
  | (refine w_Born hA ?_; intro hA)
  | refine w_State hA ?_
  | refine w_Uses hA ?_
  | refine w_Fault hA ?_
  | refine w_Words hA ?_
  | refine w_Count hA ?_
  | refine wq_Size ?_
  | refine wq_Open ?_
  | refine wq_Pack ?_
  | refine wq_head ?_
  | refine w_ck 0 hA ok rfl rfl rfl ?_
  | refine w_ck 1 hA ok rfl rfl rfl ?_
  | refine w_ck 2 hA ok rfl rfl rfl ?_
  | refine w_ck 3 hA ok rfl rfl rfl ?_
  | refine w_ck 4 hA ok rfl rfl rfl ?_
  | refine w_ck 5 hA ok rfl rfl rfl ?_
  | refine w_ck 6 hA ok rfl rfl rfl ?_
  | refine w_ck 7 hA ok rfl rfl rfl ?_
  | refine w_ckn rfl ?_
  | refine w_Base 0 1 hA ok rfl rfl ?_
  | refine w_Base 1 2 hA ok rfl rfl ?_
  | refine w_Base 2 3 hA ok rfl rfl ?_
  | refine w_Base 3 4 hA ok rfl rfl ?_
  | refine w_Base 4 5 hA ok rfl rfl ?_
  | refine w_Base 5 6 hA ok rfl rfl ?_
  | (refine w_PopStep 0 1 hA ok rfl rfl ?_; intro hA)
  | (refine w_PopStep 1 2 hA ok rfl rfl ?_; intro hA)
  | (refine w_PopStep 2 3 hA ok rfl rfl ?_; intro hA)
  | (refine w_PopStep 3 4 hA ok rfl rfl ?_; intro hA)
  | (refine w_PopStep 4 5 hA ok rfl rfl ?_; intro hA)
  | (refine w_PopStep 5 6 hA ok rfl rfl ?_; intro hA)
  | (refine w_PushStep 0 1 hA ok rfl rfl ?_; intro hA)
  | (refine w_PushStep 1 2 hA ok rfl rfl ?_; intro hA)
  | (refine w_PushStep 2 3 hA ok rfl rfl ?_; intro hA)
  | (refine w_PushStep 3 4 hA ok rfl rfl ?_; intro hA)
  | (refine w_PushStep 4 5 hA ok rfl rfl ?_; intro hA)
  | (refine w_PushStep 5 6 hA ok rfl rfl ?_; intro hA)
  | refine wp_true (by assumption) ?_
  | refine wp_false (by assumption) ?_)
    refine w_newP hA ok fun q ok => ?_
    repeat (first
  | refine wp_nil.2 ?_
  | refine w_ld 0 hA ok rfl rfl rfl ?_
  | refine w_ld 1 hA ok rfl rfl rfl ?_
  | refine w_ld 2 hA ok rfl rfl rfl ?_
  | refine w_ld 3 hA ok rfl rfl rfl ?_
  | refine w_ld 4 hA ok rfl rfl rfl ?_
  | refine w_ld 5 hA ok rfl rfl rfl ?_
  | refine w_ld 6 hA ok rfl rfl rfl ?_
  | refine w_ld 7 hA ok rfl rfl rfl ?_
  | refine w_st 0 hA ok rfl rfl rfl rfl ?_
  | refine w_st 1 hA ok rfl rfl rfl rfl ?_
  | refine w_st 2 hA ok rfl rfl rfl rfl ?_
  | refine w_st 3 hA ok rfl rfl rfl rfl ?_
  | refine w_st 4 hA ok rfl rfl rfl rfl ?_
  | refine w_st 5 hA ok rfl rfl rfl rfl ?_
  | refine w_st 6 hA ok rfl rfl rfl rfl ?_
  | refine w_st 7 hA ok rfl rfl rfl rfl ?_
  | refine w_ldA 0 hA ok rfl rfl rfl ?_
  | refine w_ldA 1 hA ok rfl rfl rfl ?_
  | refine w_ldA 2 hA ok rfl rfl rfl ?_
  | refine w_ldA 3 hA ok rfl rfl rfl ?_
  | refine w_ldA 4 hA ok rfl rfl rfl ?_
  | refine w_ldA 5 hA ok rfl rfl rfl ?_
  | refine w_ldA 6 hA ok rfl rfl rfl ?_
  | refine w_ldA 7 hA ok rfl rfl rfl ?_
  | refine w_stA 0 hA ok rfl rfl rfl rfl ?_
  | refine w_stA 1 hA ok rfl rfl rfl rfl ?_
  | refine w_stA 2 hA ok rfl rfl rfl rfl ?_
  | refine w_stA 3 hA ok rfl rfl rfl rfl ?_
  | refine w_stA 4 hA ok rfl rfl rfl rfl ?_
  | refine w_stA 5 hA ok rfl rfl rfl rfl ?_
  | refine w_stA 6 hA ok rfl rfl rfl rfl ?_
  | refine w_stA 7 hA ok rfl rfl rfl rfl ?_
  | (refine w_Raw hA ?_; intro hA)
  | (refine w_SetRaw hA ?_; intro hA)
  | (refine w_SwapRaw hA ?_; intro hA)
  | (refine w_AddRaw hA ?_; intro hA)
  | (refine w_Load hA ?_; intro hA)
  | (refine w_Store hA ?_; intro hA)
  | (refine w_Retire hA ?_; intro hA)
  | (refine w_Died hA ?_; intro hA)
  | (refine w_Born hA ?_; intro hA)
  | refine w_State hA ?_
  | refine w_Uses hA ?_
  | refine w_Fault hA ?_
  | refine w_Words hA ?_
  | refine w_Count hA ?_
  | refine wq_Size ?_
  | refine wq_Open ?_
  | refine wq_Pack ?_
  | refine wq_head ?_
  | refine w_ck 0 hA ok rfl rfl rfl ?_
  | refine w_ck 1 hA ok rfl rfl rfl ?_
  | refine w_ck 2 hA ok rfl rfl rfl ?_
  | refine w_ck 3 hA ok rfl rfl rfl ?_
  | refine w_ck 4 hA ok rfl rfl rfl ?_
  | refine w_ck 5 hA ok rfl rfl rfl ?_
  | refine w_ck 6 hA ok rfl rfl rfl ?_
  | refine w_ck 7 hA ok rfl rfl rfl ?_
  | refine w_ckn rfl ?_
  | refine w_Base 0 1 hA ok rfl rfl ?_
  | refine w_Base 1 2 hA ok rfl rfl ?_
  | refine w_Base 2 3 hA ok rfl rfl ?_
  | refine w_Base 3 4 hA ok rfl rfl ?_
  | refine w_Base 4 5 hA ok rfl rfl ?_
  | refine w_Base 5 6 hA ok rfl rfl ?_
  | (refine w_PopStep 0 1 hA ok rfl rfl ?_; intro hA)
  | (refine w_PopStep 1 2 hA ok rfl rfl ?_; intro hA)
  | (refine w_PopStep 2 3 hA ok rfl rfl ?_; intro hA)
  | (refine w_PopStep 3 4 hA ok rfl rfl ?_; intro hA)
  | (refine w_PopStep 4 5 hA ok rfl rfl ?_; intro hA)
  | (refine w_PopStep 5 6 hA ok rfl rfl ?_; intro hA)
  | (refine w_PushStep 0 1 hA ok rfl rfl ?_; intro hA)
  | (refine w_PushStep 1 2 hA ok rfl rfl ?_; intro hA)
  | (refine w_PushStep 2 3 hA ok rfl rfl ?_; intro hA)
  | (refine w_PushStep 3 4 hA ok rfl rfl ?_; intro hA)
  | (refine w_PushStep 4 5 hA ok rfl rfl ?_; intro hA)
  | (refine w_PushStep 5 6 hA ok rfl rfl ?_; intro hA)
  | refine wp_true (by assumption) ?_
  | refine wp_false (by assumption) ?_)
    refine w_appM (E := eL) elL (xs := []) (ys := xs) (s := sl0) (mid := []) (post := l) [(q, _), (e2, _), (e1, _)] hA ok (.inl ⟨rfl, rfl⟩) (SlOf.row hA ok (hs.mono fun p hp => ?_)) hsl (by simp; omega) fun s' mid' hs' ok => ?_
    · exact List.mem_cons_of_mem _ (List.mem_cons_of_mem _ (List.mem_cons_of_mem _ hp))
    repeat (first
  | refine wp_nil.2 ?_
  | refine w_ld 0 hA ok rfl rfl rfl ?_
  | refine w_ld 1 hA ok rfl rfl rfl ?_
  | refine w_ld 2 hA ok rfl rfl rfl ?_
  | refine w_ld 3 hA ok rfl rfl rfl ?_
  | refine w_ld 4 hA ok rfl rfl rfl ?_
  | refine w_ld 5 hA ok rfl rfl rfl ?_
  | refine w_ld 6 hA ok rfl rfl rfl ?_
  | refine w_ld 7 hA ok rfl rfl rfl ?_
  | refine w_st 0 hA ok rfl rfl rfl rfl ?_
  | refine w_st 1 hA ok rfl rfl rfl rfl ?_
  | refine w_st 2 hA ok rfl rfl rfl rfl ?_
  | refine w_st 3 hA ok rfl rfl rfl rfl ?_
  | refine w_st 4 hA ok rfl rfl rfl rfl ?_
  | refine w_st 5 hA ok rfl rfl rfl rfl ?_
  | refine w_st 6 hA ok rfl rfl rfl rfl ?_
  | refine w_st 7 hA ok rfl rfl rfl rfl ?_
  | refine w_ldA 0 hA ok rfl rfl rfl ?_
  | refine w_ldA 1 hA ok rfl rfl rfl ?_
  | refine w_ldA 2 hA ok rfl rfl rfl ?_
  | refine w_ldA 3 hA ok rfl rfl rfl ?_
  | refine w_ldA 4 hA ok rfl rfl rfl ?_
  | refine w_ldA 5 hA ok rfl rfl rfl ?_
  | refine w_ldA 6 hA ok rfl rfl rfl ?_
  | refine w_ldA 7 hA ok rfl rfl rfl ?_
  | refine w_stA 0 hA ok rfl rfl rfl rfl ?_
  | refine w_stA 1 hA ok rfl rfl rfl rfl ?_
  | refine w_stA 2 hA ok rfl rfl rfl rfl ?_
  | refine w_stA 3 hA ok rfl rfl rfl rfl ?_
  | refine w_stA 4 hA ok rfl rfl rfl rfl ?_
  | refine w_stA 5 hA ok rfl rfl rfl rfl ?_
  | refine w_stA 6 hA ok rfl rfl rfl rfl ?_
  | refine w_stA 7 hA ok rfl rfl rfl rfl ?_
  | (refine w_Raw hA ?_; intro hA)
  | (refine w_SetRaw hA ?_; intro hA)
  | (refine w_SwapRaw hA ?_; intro hA)
  | (refine w_AddRaw hA ?_; intro hA)
  | (refine w_Load hA ?_; intro hA)
  | (refine w_Store hA ?_; intro hA)
  | (refine w_Retire hA ?_; intro hA)
  | (refine w_Died hA ?_; intro hA)
  | (refine w_Born hA ?_; intro hA)
  | refine w_State hA ?_
  | refine w_Uses hA ?_
  | refine w_Fault hA ?_
  | refine w_Words hA ?_
  | refine w_Count hA ?_
  | refine wq_Size ?_
  | refine wq_Open ?_
  | refine wq_Pack ?_
  | refine wq_head ?_
  | refine w_ck 0 hA ok rfl rfl rfl ?_
  | refine w_ck 1 hA ok rfl rfl rfl ?_
  | refine w_ck 2 hA ok rfl rfl rfl ?_
  | refine w_ck 3 hA ok rfl rfl rfl ?_
  | refine w_ck 4 hA ok rfl rfl rfl ?_
  | refine w_ck 5 hA ok rfl rfl rfl ?_
  | refine w_ck 6 hA ok rfl rfl rfl ?_
  | refine w_ck 7 hA ok rfl rfl rfl ?_
  | refine w_ckn rfl ?_
  | refine w_Base 0 1 hA ok rfl rfl ?_
  | refine w_Base 1 2 hA ok rfl rfl ?_
  | refine w_Base 2 3 hA ok rfl rfl ?_
  | refine w_Base 3 4 hA ok rfl rfl ?_
  | refine w_Base 4 5 hA ok rfl rfl ?_
  | refine w_Base 5 6 hA ok rfl rfl ?_
  | (refine w_PopStep 0 1 hA ok rfl rfl ?_; intro hA)
  | (refine w_PopStep 1 2 hA ok rfl rfl ?_; intro hA)
  | (refine w_PopStep 2 3 hA ok rfl rfl ?_; intro hA)
  | (refine w_PopStep 3 4 hA ok rfl rfl ?_; intro hA)
  | (refine w_PopStep 4 5 hA ok rfl rfl ?_; intro hA)
  | (refine w_PopStep 5 6 hA ok rfl rfl ?_; intro hA)
  | (refine w_PushStep 0 1 hA ok rfl rfl ?_; intro hA)
  | (refine w_PushStep 1 2 hA ok rfl rfl ?_; intro hA)
  | (refine w_PushStep 2 3 hA ok rfl rfl ?_; intro hA)
  | (refine w_PushStep 3 4 hA ok rfl rfl ?_; intro hA)
  | (refine w_PushStep 4 5 hA ok rfl rfl ?_; intro hA)
  | (refine w_PushStep 5 6 hA ok rfl rfl ?_; intro hA)
  | refine wp_true (by assumption) ?_
  | refine wp_false (by assumption) ?_)
    rw [List.nil_append] at hs'
    let j0 : TnJ := ⟨q, s', sl0, sl0, [], mid', [], []⟩
    have eb : (newTn tw ta p work xs).bl j0 ++ l = (q, oc ty_epoch_Turn ((newTn tw ta p work xs).cells j0)) :: (mid' ++ l) := by
      unfold Tn.bl
      simp [fbl, newTn, j0]
    have ok1 : Ok I G (keys ((newTn tw ta p work xs).bl j0 ++ l)) := by
      rw [eb]
      have nd := ok.nd
      refine ok.sub ?_ fun b hb => ?_
      · have sl : (q :: keys (mid' ++ l)).Sublist (q :: e2 :: e1 :: keys (mid' ++ l)) := .cons_cons _ (.cons _ (.cons _ (List.Sublist.refl _)))
        exact sl.nodup nd
      · have hb : b ∈ q :: keys (mid' ++ l) := hb
        show b ∈ q :: e2 :: e1 :: keys (mid' ++ l)
        simp only [List.mem_cons] at hb ⊢
        rcases hb with h | h
        · exact .inl h
        · exact .inr (.inr (.inr h))
    refine ⟨own A ((newTn tw ta p work xs).bl j0 ++ l) G, own_sub ok ok1.nd fun b hb => ?_, j0, rfl, rfl, ok1, ⟨hs', .inl ⟨rfl, rfl⟩, .inl ⟨rfl, rfl⟩, rfl, fun _ => ⟨rfl, rfl⟩⟩⟩
    rw [eb] at hb
    rcases List.mem_cons.1 hb with h | hb
    · rw [h]; exact List.mem_cons_self
    · exact List.mem_cons_of_mem _ (List.mem_cons_of_mem _ (List.mem_cons_of_mem _ hb))
  · rintro v K ⟨j, rfl, rfl, o, r⟩
    exact ⟨_, rfl, h j o r⟩

/-- What is left. -/
theorem w_TLeft {m : Tn} {j : TnJ} {rest : Bl} {k : Sl → Tree} (hA : Aw I A) (ok : Ok I G (keys (m.bl j ++ rest))) (rp : m.rep j) (he : 4 ≤ m.ph) (hm : m.left.length ≤ 1000)
    (h : ∀ s' tl', SlOf tl' ty_epoch_Limbo eL s' m.left → Ok I G (keys (m.bl j ++ (tl' ++ rest))) → wp Try.prog (k s') L (own A (m.bl j ++ (tl' ++ rest)) G) R) :
    wp Try.prog (.call f_epoch_Turn_Left [.pointer (some ⟨j.q, 0, none⟩)] (.one (.leaf .slice)) k) L (own A (m.bl j ++ rest) G) R := by
  refine wp_call_of (R0 := fun v K => ∃ s' tl', v = .slice s'.a s'.len s'.cap ∧ K = own A (m.bl j ++ (tl' ++ rest)) G ∧ SlOf tl' ty_epoch_Limbo eL s' m.left ∧ Ok I G (keys (m.bl j ++ (tl' ++ rest)))) ?_ ?_
  · refine t_epoch_Turn_Left_spec fun L => ?_
    unfold t_epoch_Turn_Left
    refine wp_nil.2 ?_
    refine w_ld 0 hA ok rfl rfl rfl ?_
    refine look_val (x := decide (m.ph < 4)) (tneq _ _) (wp_false (decide_eq_false (by omega)) ?_)
    refine wp_nil.2 ?_
    refine w_ld 0 hA ok rfl rfl rfl ?_
    rw [opS_nilapp]
    refine w_appM (E := eL) elL (xs := []) (ys := m.left) (s := sl0) (mid := []) (post := rest) (m.bl j) hA ok (.inl ⟨rfl, rfl⟩) ?_ rp.ds.len (by simp; omega) fun s' mid' hs' ok => ?_
    · refine SlOf.row hA ok (rp.ds.mono fun p hp => List.mem_append_left _ ?_)
      exact List.mem_cons_of_mem _ (List.mem_append_right _ (List.mem_append_right _ (List.mem_append_right _ hp)))
    exact wp_ret_of ⟨s', mid', rfl, rfl, hs', ok⟩
  · rintro v K ⟨s', tl', rfl, rfl, hs', o⟩
    exact ⟨_, rfl, h s' tl' hs' o⟩
end
end Go.Proofs.Ytfphgiipekkgdaa

set_option linter.unusedVariables false
set_option linter.unusedSimpArgs false
set_option maxRecDepth 20000
namespace Go.Proofs.Ytfphgiipekkgdaa
open Go Go.Fw

/-! ### A turn alone, to its end -/

abbrev Tn.on (m : Tn) (fs : List Fe) : Tn := { m with frees := fs, ph := if fs = [] then 4 else 3 }

theorem tn_free {m : Tn} (ll : m.l.length ≤ 1000) {fs : List Fe} : ∀ {n : Nat} {f f' : Fe} {A A' : Ar}, mFe.Runs n f A f' A' → f.done = false →
    (fs ≠ [] → mTn.Path n (m.on (f :: fs)) A (m.on fs) A') ∧ (fs = [] → mTn.Runs n (m.on [f]) A (m.on []) A') := by
  intro n f f' A A' h
  have p3 : ∀ (f : Fe), (m.on (f :: fs)).ph = 3 := fun f => by
    show (if (f :: fs) = [] then 4 else 3) = 3
    rw [if_neg (List.cons_ne_nil _ _)]
  have iv : ∀ (f : Fe) (A : Ar), mTn.inv (m.on (f :: fs)) A := fun f A => ⟨ll, fun h => by rw [p3] at h; omega, fun _ => by simp⟩
  have st : ∀ (f : Fe) (A : Ar), mTn.step (m.on (f :: fs)) A = if (f.step A).1.done = true then (m.on fs, (f.step A).2) else (m.on ((f.step A).1 :: fs), (f.step A).2) := fun f A => by
    show Tn.step (m.on (f :: fs)) A = _
    unfold Tn.step
    rw [if_neg (by rw [p3]; decide), if_neg (by rw [p3]; decide), if_neg (by rw [p3]; decide), if_pos (p3 f)]
    dsimp only
    split
    · rfl
    · simp
  induction h with
  | @one f A h1 h2 h3 =>
    intro hf
    have h3 : (f.step A).1.done = true := h3
    have st1 := st f A
    rw [if_pos h3] at st1
    refine ⟨fun hn => .cons (iv f A) st1 h2 ?_ .nil, fun hn => ?_⟩
    · show decide (4 ≤ (m.on fs).ph) = false
      rw [show (m.on fs).ph = 3 from if_neg hn]; rfl
    · subst hn
      exact .one (iv f A) st1 h2 rfl
  | @more n f A f' A' h1 h2 h3 h4 ih =>
    intro hf
    have h3 : (f.step A).1.done = false := h3
    obtain ⟨i1, i2⟩ := ih h3
    have st1 := st f A
    rw [if_neg (by rw [h3]; simp)] at st1
    have hf2 : mTn.fin (m.on ((f.step A).1 :: fs)) = false := by
      show decide (4 ≤ (m.on ((f.step A).1 :: fs)).ph) = false
      rw [p3]; rfl
    refine ⟨fun hn => .cons (iv f A) st1 h2 hf2 (i1 hn), fun hn => ?_⟩
    have := i2 hn
    subst hn
    exact .more (iv f A) st1 h2 hf2 this

theorem tsweep {m : Tn} (ll : m.l.length ≤ 1000) {p : Pl} {w mm who : Int} (wh : 0 ≤ who ∧ who < w) : ∀ (hs : List Int) (A : Ar) (S : Sg), hs ≠ [] → hs.Nodup → SL A p w mm S → A.wf → A.uses + 3 * hs.length ≤ 1000000 → 8 * hs.length ≤ A.nR → (∀ h ∈ hs, A.stF h = 2 ∧ opC h = 0) →
    ∃ A' S', mTn.Runs (3 * hs.length) (m.on (hs.map (newFe p who))) A (m.on []) A' ∧ Swept A p w mm S who hs A' S'
  | [], _, _, h, _, _, _, _, _, _ => (h rfl).elim
  | h :: hs, A, S, _, hnd, X, hwf, hu, hr, hh => by
    obtain ⟨n1, n2⟩ := List.nodup_cons.1 hnd
    obtain ⟨h1, h2⟩ := hh h List.mem_cons_self
    simp only [List.length_cons] at hu hr
    have us := X.F.us
    obtain ⟨x', A1, Z⟩ := free_solo X hwf (by omega) wh h1 (by rw [h2, show sizeF 0 = 8 from rfl]; omega)
    obtain ⟨f1, f2⟩ := tn_free ll (fs := hs.map (newFe p who)) Z.run rfl
    have z1 := Z.off.us
    have z2 := Z.nR
    rw [h2, show sizeF 0 = 8 from rfl] at z2
    have chz : upd S.ch (4 * who + opC h) (opB h :: S.ch (4 * who + opC h)) (4 * who) = opB h :: S.ch (4 * who) := by
      rw [h2, Int.add_zero]; unfold upd; rw [if_pos rfl]
    by_cases he : hs = []
    · subst he
      refine ⟨A1, _, f2 rfl, Z.off, Z.sl, fun k => ?_, Z.nL, ?_, chz, rfl⟩
      · rw [Z.st k]; simp
      · rw [z2]; simp
    · obtain ⟨A2, S2, r2, W⟩ := tsweep ll wh hs A1 _ he n2 Z.sl Z.off.wf (by omega) (by omega) fun k hk => by
        have := hh k (List.mem_cons_of_mem _ hk)
        refine ⟨?_, this.2⟩
        rw [Z.st k, if_neg (fun e : k = h => n1 (by rw [← e]; exact hk))]; exact this.1
      refine ⟨A2, S2, ?_, ?_, W.sl, fun k => ?_, W.nL.trans Z.nL, ?_, ?_, W.nc⟩
      · have := (f1 (by simpa using he)).run r2
        rw [List.length_cons, show 3 * (hs.length + 1) = 3 + 3 * hs.length by omega]
        exact this
      · have := Z.off.trans W.off
        rw [List.length_cons]
        rw [show (3 * ((hs.length + 1 : Nat) : Int)) = 3 + 3 * (hs.length : Int) by omega]
        exact this
      · rw [W.st k, Z.st k]
        by_cases e1 : k ∈ hs
        · rw [if_pos e1, if_pos (List.mem_cons_of_mem _ e1)]
        · rw [if_neg e1]
          by_cases e2 : k = h
          · rw [if_pos e2, if_pos (by rw [e2]; exact List.mem_cons_self)]
          · rw [if_neg e2, if_neg (by simp [e1, e2])]
      · rw [W.nR, z2, List.length_cons]; omega
      · rw [W.ch]
        show _ ++ upd S.ch (4 * who + opC h) (opB h :: S.ch (4 * who + opC h)) (4 * who) = _
        rw [chz]; simp

def tgone (e : Int) (xs : List (Int × Int)) : List Int := (xs.filter (due e)).map Prod.fst
def tleft (e : Int) (xs : List (Int × Int)) : List (Int × Int) := xs.filter fun x => !due e x

section
variable {A : Ar} {p : Pl} {w m : Int} {S : Sg}

theorem tn_sorted (t : Tn) : t.sort = Tn.on { t with left := tleft t.e t.l } ((tgone t.e t.l).map (newFe t.pl t.work)) := by
  show Tn.mk _ _ _ _ _ _ _ (((t.l.take t.l.length).filter (due t.e)).map fun x => newFe t.pl t.work x.1) ((t.l.take t.l.length).filter fun x => !due t.e x) (if (((t.l.take t.l.length).filter (due t.e)).map fun x => newFe t.pl t.work x.1) = [] then 4 else 3) = _
  rw [List.take_length]
  have : ((t.l.filter (due t.e)).map fun x => newFe t.pl t.work x.1) = (tgone t.e t.l).map (newFe t.pl t.work) := by
    unfold tgone; rw [List.map_map]; rfl
  rw [this]; rfl

theorem turn_end {who : Int} {B D : Ar} {mm t : Tn} (X : SL B p w m S) (hwf : B.wf) (wh : 0 ≤ who ∧ who < w) (tp : t.pl = p) (tw : t.work = who) (ll : t.l.length ≤ 1000) (u1 : B.uses ≤ 900000)
    (nd : (t.l.map Prod.fst).Nodup) (nr : 8 * t.l.length ≤ B.nR) (hh : ∀ x ∈ t.l, B.stF x.1 = 2 ∧ opC x.1 = 0) (iv : mTn.inv mm D) (hst : mTn.step mm D = (t.sort, B)) (hu : B.uses ≤ w64 (D.uses + 1)) :
    ∃ A' S' m', mTn.Runs (1 + 3 * (tgone t.e t.l).length) mm D m' A' ∧ m'.left = tleft t.e t.l ∧ 4 ≤ m'.ph ∧ Swept B p w m S who (tgone t.e t.l) A' S' := by
  subst tp; subst tw
  rw [tn_sorted] at hst
  have hle : (tgone t.e t.l).length ≤ t.l.length := by unfold tgone; rw [List.length_map]; exact List.length_filter_le _ _
  by_cases hg : tgone t.e t.l = []
  · refine ⟨B, S, Tn.on { t with left := tleft t.e t.l } [], ?_, rfl, Nat.le_refl 4, ?_⟩
    · rw [hg] at hst ⊢
      exact .one iv hst hu rfl
    · rw [hg]; exact .refl X hwf
  · obtain ⟨A', S', r, W⟩ := tsweep (m := { t with left := tleft t.e t.l }) ll (p := t.pl) (w := w) (mm := m) wh (tgone t.e t.l) B S hg (((List.filter_sublist (l := t.l) (p := due t.e)).map Prod.fst).nodup nd) X hwf (by omega) (by omega) fun h hm => by
      obtain ⟨x, hx, rfl⟩ := List.mem_map.1 hm
      exact hh x (List.mem_filter.1 hx).1
    refine ⟨A', S', Tn.on { t with left := tleft t.e t.l } [], ?_, rfl, Nat.le_refl 4, W⟩
    rw [Nat.add_comm]
    refine .more iv hst hu ?_ r
    have : (tgone t.e t.l).map (newFe t.pl t.work) ≠ [] := by simpa using hg
    show decide (4 ≤ (Tn.on { t with left := tleft t.e t.l } ((tgone t.e t.l).map (newFe t.pl t.work))).ph) = false
    rw [show (Tn.on { t with left := tleft t.e t.l } ((tgone t.e t.l).map (newFe t.pl t.work))).ph = 3 from if_neg this]; rfl

/-- Behind so many words that were in nobody's way. -/
def tnN (tw ta : Int) (p : Pl) (who : Int) (xs : List (Int × Int)) (e : Int) (n : Nat) : Tn := ⟨tw, ta, p, who, e, n, xs, [], [], if (n : Int) = tw then 2 else 1⟩

theorem looks_path {tw ta who e : Int} {xs : List (Int × Int)} (tb : 1 ≤ tw ∧ tw ≤ 1000) (ll : xs.length ≤ 1000) (h0 : 0 ≤ ta) (h1 : ta + 1 + tw ≤ A.raw.length) (h2 : (A.raw.length : Int) ≤ 1000000) (u0 : 0 ≤ A.uses) (u1 : A.uses ≤ 1000000)
    (he : A.rawF ta = e) (eb : 0 ≤ e ∧ e ≤ 1000000) :
    ∀ n : Nat, (n : Int) ≤ tw → (∀ i : Nat, i < n → A.rawF (ta + 1 + i) = 0 ∨ A.rawF (ta + 1 + i) = e + 1) → mTn.Path (1 + n) (newTn tw ta p who xs) A (tnN tw ta p who xs e n) (A.later (1 + n))
  | 0, _, _ => by
    have e2 : w64 (A.uses + 1) = A.uses + 1 := w64_in (by omega) (by omega)
    refine .cons (x1 := tnN tw ta p who xs e 0) (D1 := A.later (1 + (0 : Nat))) ⟨ll, fun _ => ⟨rfl, rfl⟩, fun h => by cases h⟩ ?_ ?_ ?_ .nil
    · show Tn.step (newTn tw ta p who xs) A = _
      unfold Tn.step
      rw [if_pos (show (newTn tw ta p who xs).ph = 0 from rfl)]
      have et : (newTn tw ta p who xs).ta = ta := rfl
      have ew : (newTn tw ta p who xs).tw = tw := rfl
      rw [et, ew, he, tick_later ⟨by omega, by omega⟩ u0 (by omega), if_neg (by omega)]
      unfold tnN
      rw [if_neg (by omega)]; rfl
    · show A.uses + (1 + 0) ≤ _; rw [e2]; omega
    · show decide (4 ≤ (tnN tw ta p who xs e 0).ph) = false
      unfold tnN; rw [if_neg (by omega)]; rfl
  | n + 1, hn, hw => by
    have ih := looks_path (who := who) (xs := xs) tb ll h0 h1 h2 u0 u1 he eb n (by omega) fun i hi => hw i (by omega)
    have hv := hw n (by omega)
    have ew : ewd ta n = ta + 1 + n := ewd_eq ⟨by omega, by omega, by omega, by omega⟩
    have e1 : w64 ((n : Int) + 1) = n + 1 := w64_in (by omega) (by omega)
    have e2 : w64 (A.uses + (1 + n) + 1) = A.uses + (1 + n) + 1 := w64_in (by omega) (by omega)
    have e3 : w64 (e + 1) = e + 1 := w64_in (by omega) (by omega)
    have p1 : (tnN tw ta p who xs e n).ph = 1 := if_neg (by omega)
    rw [show 1 + (n + 1) = (1 + n) + 1 by omega]
    refine ih.trans (.cons (x1 := tnN tw ta p who xs e (n + 1)) (D1 := A.later (1 + ((n + 1 : Nat) : Int))) ⟨ll, fun _ => ⟨rfl, rfl⟩, fun h => by rw [p1] at h; omega⟩ ?_ ?_ ?_ .nil)
    · show Tn.step (tnN tw ta p who xs e n) (A.later (1 + n)) = _
      unfold Tn.step
      have et : (tnN tw ta p who xs e n).ta = ta := rfl
      have en : (tnN tw ta p who xs e n).word = n := rfl
      have etw : (tnN tw ta p who xs e n).tw = tw := rfl
      have ee : (tnN tw ta p who xs e n).e = e := rfl
      rw [if_neg (by rw [p1]; decide), if_pos p1, et, en, etw, ee, ew, e1, e3]
      have er : (A.later (1 + n)).rawF (ta + 1 + n) = A.rawF (ta + 1 + n) := rfl
      rw [er, if_neg (fun h => by rcases hv with h' | h'; exact h.1 h'; exact h.2 h'), tick_later (A := A.later (1 + n)) ⟨by omega, by show ta + 1 + (n : Int) < (A.raw.length : Int); omega⟩ (by show 0 ≤ A.uses + _; omega) (by show A.uses + _ ≤ _; omega), later_add]
      refine Prod.ext rfl ?_
      show A.later (1 + (n : Int) + 1) = A.later (1 + ((n + 1 : Nat) : Int))
      rw [show 1 + (n : Int) + 1 = 1 + ((n + 1 : Nat) : Int) by omega]
    · show A.uses + (1 + ((n + 1 : Nat) : Int)) ≤ w64 (A.uses + (1 + n) + 1)
      rw [e2]; omega
    · show decide (4 ≤ (tnN tw ta p who xs e (n + 1)).ph) = false
      unfold tnN
      dsimp only
      split <;> rfl

theorem swapR_yes {i v x : Int} (o : A.rawOk i) (h : A.rawF i = v) : A.swapRb i v = true ∧ A.swapR i v x = A.storeR i x := by
  have h' : A.raw.getD i.toNat 0 = v := by rw [getD_rawF o]; exact h
  refine ⟨decide_eq_true ⟨o, h'⟩, ?_⟩
  unfold Ar.swapR Ar.storeR
  rw [if_pos o, if_pos h', if_pos o]

/-- With nobody in its way. -/
theorem turn_free {tw ta who e : Int} {xs : List (Int × Int)} (X : SL A p w m S) (hwf : A.wf) (tb : 1 ≤ tw ∧ tw ≤ 1000) (ll : xs.length ≤ 1000) (h0 : p.carved < ta) (h1 : ta + 1 + tw ≤ A.raw.length) (h2 : (A.raw.length : Int) ≤ 1000000) (u1 : A.uses ≤ 800000)
    (he : A.rawF ta = e) (eb : 0 ≤ e ∧ e ≤ 1000000) (wh : 0 ≤ who ∧ who < w) (nd : (xs.map Prod.fst).Nodup) (nr : 8 * xs.length ≤ A.nR) (hh : ∀ x ∈ xs, A.stF x.1 = 2 ∧ opC x.1 = 0)
    (hw : ∀ i : Nat, (i : Int) < tw → A.rawF (ta + 1 + i) = 0 ∨ A.rawF (ta + 1 + i) = e + 1) :
    ∃ B A' S' m' n, mTn.Runs n (newTn tw ta p who xs) A m' A' ∧ n = 2 + tw.toNat + 3 * (tgone (e + 1) xs).length ∧ m'.left = tleft (e + 1) xs ∧ 4 ≤ m'.ph ∧ OutS (A.later (1 + tw)) p w m S ta (e + 1) B ∧ Swept B p w m S who (tgone (e + 1) xs) A' S' := by
  have u0 := X.F.us
  obtain ⟨p1, p2, p3, p4, p5⟩ := X.places
  have wb := X.wb
  have mb := X.mb
  have t0 : 0 ≤ ta := by omega
  have pth := looks_path (p := p) (who := who) (xs := xs) tb ll t0 h1 h2 u0 (by omega) he eb tw.toNat (by omega) fun i hi => hw i (by omega)
  have O := outS (X.later (n := 1 + tw) (by omega)) (i := ta) (v := e + 1) ⟨h0, by show ta < (A.raw.length : Int); omega⟩ (by show A.uses + _ ≤ _; omega)
  obtain ⟨B, hB⟩ : ∃ B, B = (A.later (1 + tw)).storeR ta (e + 1) := ⟨_, rfl⟩
  rw [← hB] at O
  have hBw : B.wf := by rw [hB]; exact storeR_wf (later_wf hwf _) _ _
  have us := O.us
  have us1 : (A.later (1 + tw)).uses = A.uses + (1 + tw) := rfl
  have e3 : w64 (e + 1) = e + 1 := w64_in (by omega) (by omega)
  have etn : ((tw.toNat : Nat) : Int) = tw := by omega
  have ph2 : (tnN tw ta p who xs e tw.toNat).ph = 2 := if_pos etn
  rw [etn] at pth
  obtain ⟨A', S', m', r, q1, q2, q3⟩ := turn_end (t := { tnN tw ta p who xs e tw.toNat with e := e + 1 }) (mm := tnN tw ta p who xs e tw.toNat) (D := A.later (1 + tw)) O.sl hBw wh rfl rfl ll (by omega) nd (by rw [O.nR]; exact nr) (fun x hx => by rw [O.st]; exact hh x hx) ⟨ll, fun _ => ⟨rfl, rfl⟩, fun h => by rw [ph2] at h; omega⟩ (by
      show Tn.step (tnN tw ta p who xs e tw.toNat) (A.later (1 + tw)) = _
      unfold Tn.step
      have et : (tnN tw ta p who xs e tw.toNat).ta = ta := rfl
      have ee : (tnN tw ta p who xs e tw.toNat).e = e := rfl
      obtain ⟨s1, s2⟩ := swapR_yes (A := A.later (1 + tw)) (i := ta) (v := e) (x := e + 1) ⟨by omega, by show ta < (A.raw.length : Int); omega⟩ he
      rw [if_neg (by rw [ph2]; decide), if_neg (by rw [ph2]; decide), if_pos ph2, et, ee, e3, s2, if_pos s1, hB]; rfl) (by
      rw [us, us1, w64_in (by omega) (by omega)]; omega)
  exact ⟨B, A', S', m', _, pth.run r, by show _ = 2 + tw.toNat + 3 * (tgone (e + 1) xs).length; show 1 + tw.toNat + (1 + 3 * (tgone (e + 1) xs).length) = _; omega, q1, q2, O, q3⟩

/-- With one behind. -/
theorem turn_block {tw ta who e : Int} {xs : List (Int × Int)} (X : SL A p w m S) (hwf : A.wf) (tb : 1 ≤ tw ∧ tw ≤ 1000) (ll : xs.length ≤ 1000) (h0 : 0 ≤ ta) (h1 : ta + 1 + tw ≤ A.raw.length) (h2 : (A.raw.length : Int) ≤ 1000000) (u1 : A.uses ≤ 800000)
    (he : A.rawF ta = e) (eb : 0 ≤ e ∧ e ≤ 1000000) (wh : 0 ≤ who ∧ who < w) (nd : (xs.map Prod.fst).Nodup) (nr : 8 * xs.length ≤ A.nR) (hh : ∀ x ∈ xs, A.stF x.1 = 2 ∧ opC x.1 = 0) {k : Nat} (hk : (k : Int) < tw)
    (hw : ∀ i : Nat, i < k → A.rawF (ta + 1 + i) = 0 ∨ A.rawF (ta + 1 + i) = e + 1) (hn : A.rawF (ta + 1 + k) ≠ 0 ∧ A.rawF (ta + 1 + k) ≠ e + 1) :
    ∃ A' S' m' n, mTn.Runs n (newTn tw ta p who xs) A m' A' ∧ n = 2 + k + 3 * (tgone e xs).length ∧ m'.left = tleft e xs ∧ 4 ≤ m'.ph ∧ Swept (A.later (2 + k)) p w m S who (tgone e xs) A' S' := by
  have u0 := X.F.us
  have pth := looks_path (p := p) (who := who) (xs := xs) tb ll h0 h1 h2 u0 (by omega) he eb k (by omega) hw
  have e3 : w64 (e + 1) = e + 1 := w64_in (by omega) (by omega)
  have e1 : w64 ((k : Int) + 1) = k + 1 := w64_in (by omega) (by omega)
  have ew : ewd ta k = ta + 1 + k := ewd_eq ⟨by omega, by omega, by omega, by omega⟩
  have ph1 : (tnN tw ta p who xs e k).ph = 1 := if_neg (by omega)
  obtain ⟨A', S', m', r, q1, q2, q3⟩ := turn_end (t := { tnN tw ta p who xs e k with word := (k : Int) + 1 }) (mm := tnN tw ta p who xs e k) (D := A.later (1 + k)) (B := A.later (2 + k)) (X.later (by omega)) (later_wf hwf _) wh rfl rfl ll (by show A.uses + _ ≤ _; omega) nd nr hh ⟨ll, fun _ => ⟨rfl, rfl⟩, fun h => by rw [ph1] at h; omega⟩ (by
      show Tn.step (tnN tw ta p who xs e k) (A.later (1 + k)) = _
      unfold Tn.step
      have et : (tnN tw ta p who xs e k).ta = ta := rfl
      have ee : (tnN tw ta p who xs e k).e = e := rfl
      have en : (tnN tw ta p who xs e k).word = k := rfl
      have er : (A.later (1 + k)).rawF (ta + 1 + k) = A.rawF (ta + 1 + k) := rfl
      rw [if_neg (by rw [ph1]; decide), if_pos ph1, et, ee, en, ew, e1, e3, er, if_pos hn, tick_later (A := A.later (1 + k)) ⟨by omega, by show ta + 1 + (k : Int) < (A.raw.length : Int); omega⟩ (by show 0 ≤ A.uses + _; omega) (by show A.uses + _ ≤ _; omega), later_add, show 1 + (k : Int) + 1 = 2 + k by omega]; rfl) (by
      show A.uses + (2 + k) ≤ w64 (A.uses + (1 + k) + 1)
      rw [w64_in (by omega) (by omega)]; omega)
  exact ⟨A', S', m', _, pth.run r, by show 1 + k + (1 + 3 * (tgone e xs).length) = _; omega, q1, q2, q3⟩

/-- A pin alone. -/
theorem pin_solo {tw ta who e : Int} (h0 : 0 ≤ ta) (b : 0 ≤ who ∧ who ≤ 1000) (h1 : ta + 1 + who < A.raw.length) (h2 : (A.raw.length : Int) ≤ 1000000) (u0 : 0 ≤ A.uses) (u1 : A.uses ≤ 900000) (he : A.rawF ta = e) (eb : 0 ≤ e ∧ e ≤ 1000000) :
    ∃ m', mPn.Runs 3 (newPn tw ta who) A m' (((A.later 1).storeR (ta + 1 + who) (e + 1)).later 1) := by
  have ew : ewd ta who = ta + 1 + who := ewd_eq ⟨by omega, by omega, by omega, by omega⟩
  have e3 : w64 (e + 1) = e + 1 := w64_in (by omega) (by omega)
  have okT : A.rawOk ta := ⟨h0, by omega⟩
  have okW : (A.later 1).rawOk (ta + 1 + who) := ⟨by omega, h1⟩
  have s0 : mPn.step (newPn tw ta who) A = (⟨tw, ta, who, e, 1⟩, A.later 1) := by
    show Pn.step (newPn tw ta who) A = _
    unfold Pn.step
    rw [if_pos (show (newPn tw ta who).ph = 0 from rfl), show (newPn tw ta who).ta = ta from rfl, he, tick_later okT u0 (by omega)]; rfl
  obtain ⟨B, hB⟩ : ∃ B, B = (A.later 1).storeR (ta + 1 + who) (e + 1) := ⟨_, rfl⟩
  have bs : B = (A.later 2).setR (ta + 1 + who).toNat (e + 1) := by
    rw [hB]; unfold Ar.storeR
    rw [if_pos okW]
    have : (A.later 1).tick = A.later 2 := by unfold Ar.tick Ar.later; dsimp only; rw [w64_in (by omega) (by omega), Int.add_assoc]; rfl
    rw [this]
  have bu : B.uses = A.uses + 2 := by rw [bs]; rfl
  have bl : B.raw.length = A.raw.length := by rw [bs]; show (A.raw.set _ _).length = _; rw [List.length_set]
  have be : B.rawF ta = e := by
    rw [bs, rawF_setR (A := A.later 2) (i := ta + 1 + who) okW, if_neg (by omega)]; exact he
  have s1 : mPn.step ⟨tw, ta, who, e, 1⟩ (A.later 1) = (⟨tw, ta, who, e, 2⟩, B) := by
    show Pn.step ⟨tw, ta, who, e, 1⟩ (A.later 1) = _
    unfold Pn.step
    rw [if_neg (show ¬ 1 = 0 by decide), if_pos rfl]
    dsimp only
    rw [ew, e3, ← hB]
  have s2 : mPn.step ⟨tw, ta, who, e, 2⟩ B = (⟨tw, ta, who, e, 3⟩, B.later 1) := by
    show Pn.step ⟨tw, ta, who, e, 2⟩ B = _
    unfold Pn.step
    rw [if_neg (show ¬ 2 = 0 by decide), if_neg (show ¬ 2 = 1 by decide), if_pos rfl]
    dsimp only
    rw [be, if_pos rfl, tick_later ⟨h0, by rw [bl]; omega⟩ (by omega) (by omega)]
  refine ⟨⟨tw, ta, who, e, 3⟩, ?_⟩
  rw [← hB]
  have r2 : mPn.Runs 1 ⟨tw, ta, who, e, 2⟩ B ⟨tw, ta, who, e, 3⟩ (B.later 1) := Mch.Runs.last (by show 2 ≤ 3; omega) s2 (by show B.uses + 1 ≤ _; rw [bu, w64_in (by omega) (by omega)]; omega) rfl
  have p1 : mPn.Path 2 (newPn tw ta who) A ⟨tw, ta, who, e, 2⟩ B := .cons (by show 0 ≤ 3; omega) s0 (by show A.uses + 1 ≤ _; rw [w64_in (by omega) (by omega)]; omega) rfl
    (.cons (by show 1 ≤ 3; omega) s1 (by rw [bu]; show A.uses + 2 ≤ w64 (A.uses + 1 + 1); rw [w64_in (by omega) (by omega)]; omega) rfl .nil)
  exact p1.run r2
end
end Go.Proofs.Ytfphgiipekkgdaa

set_option linter.unusedVariables false
set_option maxRecDepth 10000
namespace Go.Proofs.Ytfphgiipekkgdaa
open Go Go.Fw
/- magpie/magpielaw13.run -/
@[reducible] def t_magpielaw13_run_L1_sh : List Sh1 := [(.leaf .bool), (.leaf (.int .i64))]
noncomputable def t_magpielaw13_run_L1 (p0 : Option Addr) (p1 : Value) (y1 : HL Sh1.T t_magpielaw13_run_L1_sh) : Tree :=
  bif (decide ((y1.2.1 : Int) < 2000)) then (
    .call f_arena_Arena_Uses [(.pointer p0)] (.one (.leaf (.int .i64))) fun x13 =>
    .act (opS Try.prog (.call { callee := .invoke (.tmp 0) "Step", args := #[(.tmp 1)], argTypes := #[ty_p_arena_Arena] }) ty_bool [p1, (.pointer p0)]) (.one (.leaf .bool)) fun x16 =>
    .call f_arena_Arena_Uses [(.pointer p0)] (.one (.leaf (.int .i64))) fun x18 =>
    bif (decide ((x18 : Int) > (w64 (x13 + 1)))) then (
      .ret (.bool false))
    else (
      bif x16 then (
        .ret (.bool true))
      else (
        .again 128 [(.bool y1.1), (.int .i64 (w64 (y1.2.1 + 1)))])))
  else (
    .ret (.bool false))
noncomputable def t_magpielaw13_run (p0 : Option Addr) (p1 : Value) : Tree :=
  .loop 128 t_magpielaw13_run_L1_sh [(.bool false), (.int .i64 0)] (t_magpielaw13_run_L1 p0 p1)
theorem t_magpielaw13_run_eq (p0 : Option Addr) (p1 : Value) : funcTree Try.prog { quiet := [16, 22, 23, 34, 35, 48, 49, 53, 57, 58, 59, 62, 105], quietTmp := true, fncs := [], ifcs := [] } Try.f47 [(.pointer p0), p1] = t_magpielaw13_run p0 p1 := by kernel_rfl
theorem t_magpielaw13_run_spec {p0 : Option Addr} {p1 : Value} {H : Heap} {R : Value → Heap → Prop} (h : ∀ L, wp Try.prog (t_magpielaw13_run p0 p1) L H R) : SpecF Try.prog f_magpielaw13_run #[(.pointer p0), p1] H R :=
  spec_of_tree (cfg := { quiet := [16, 22, 23, 34, 35, 48, 49, 53, 57, 58, 59, 62, 105], quietTmp := true, fncs := [], ifcs := [] }) Try.func47 fun L => (t_magpielaw13_run_eq p0 p1).symm ▸ h L

/- magpie/magpielaw13.make1 -/
noncomputable def t_magpielaw13_make1 (p0 : Int) (p1 : Int) : Tree :=
  .newP (.cells #[(.int .i64 0), (.int .i64 0), (.int .i64 0), (.int .i64 0), (.int .i64 0)] ty_free_Place) fun x5 =>
  .newP (.cells #[(.int .i64 0), (.int .i64 0)] ty_epoch_Table) fun x6 =>
  .call f_free_Raw [(.int .i64 p0), (.int .i64 (w64 (8 * p1)))] (.tup [(.agg [(.int .i64), (.int .i64), (.int .i64), (.int .i64), (.int .i64)]), (.leaf (.int .i64))]) fun x15 =>
  .newP (.cells #[(.int .i64 0), (.int .i64 0), (.int .i64 0), (.int .i64 0), (.int .i64 0)] ty_free_Place) fun x7 =>
  .stA x7 [(.int .i64 x15.1.1), (.int .i64 x15.1.2.1), (.int .i64 x15.1.2.2.1), (.int .i64 x15.1.2.2.2.1), (.int .i64 x15.1.2.2.2.2.1)] <|
  .qcall f_epoch_Raw [(.int .i64 p0), (.int .i64 x15.2.1)] (.tup [(.agg [(.int .i64), (.int .i64)]), (.leaf (.int .i64))]) fun x21 =>
  .newP (.cells #[(.int .i64 0), (.int .i64 0)] ty_epoch_Table) fun x9 =>
  .stA x9 [(.int .i64 x21.1.1), (.int .i64 x21.1.2.1)] <|
  .ldA x7 [(.int .i64), (.int .i64), (.int .i64), (.int .i64), (.int .i64)] fun x31 =>
  .ldA x9 [(.int .i64), (.int .i64)] fun x32 =>
  .call f_arena_New [(.int .i64 (w64 ((w64 (x15.2.1 + x21.2.1)) + 1))), (.int .i64 (w64 (8 * p1))), (.bool false)] (.one (.leaf .ptr)) fun x30 =>
  .check (ldAS x9 2 0 #[]) (.agg #[(.int .i64 x32.1), (.int .i64 x32.2.1)]) <|
  .check (ldAS x7 5 0 #[]) (.agg #[(.int .i64 x31.1), (.int .i64 x31.2.1), (.int .i64 x31.2.2.1), (.int .i64 x31.2.2.2.1), (.int .i64 x31.2.2.2.2.1)]) <|
  .stA x5 [(.int .i64 x31.1), (.int .i64 x31.2.1), (.int .i64 x31.2.2.1), (.int .i64 x31.2.2.2.1), (.int .i64 x31.2.2.2.2.1)] <|
  .check (ldAS x9 2 0 #[]) (.agg #[(.int .i64 x32.1), (.int .i64 x32.2.1)]) <|
  .stA x6 [(.int .i64 x32.1), (.int .i64 x32.2.1)] <|
  .look (ldK x5 5 0 #[] fun r1 => ldK x6 2 0 #[] fun r2 => .pure (.value (.tuple #[(.pointer x30), (.agg r1), (.agg r2)]))) (.tup [(.leaf .ptr), (.agg [(.int .i64), (.int .i64), (.int .i64), (.int .i64), (.int .i64)]), (.agg [(.int .i64), (.int .i64)])]) fun r => .ret (Sh.toVal (.tup [(.leaf .ptr), (.agg [(.int .i64), (.int .i64), (.int .i64), (.int .i64), (.int .i64)]), (.agg [(.int .i64), (.int .i64)])]) r)
theorem t_magpielaw13_make1_eq (p0 : Int) (p1 : Int) : funcTree Try.prog { quiet := [16, 22, 23, 34, 35, 48, 49, 53, 57, 58, 59, 62, 105], quietTmp := true, fncs := [], ifcs := [] } Try.f45 [(.int .i64 p0), (.int .i64 p1)] = t_magpielaw13_make1 p0 p1 := by kernel_rfl
theorem t_magpielaw13_make1_spec {p0 : Int} {p1 : Int} {H : Heap} {R : Value → Heap → Prop} (h : ∀ L, wp Try.prog (t_magpielaw13_make1 p0 p1) L H R) : SpecF Try.prog f_magpielaw13_make1 #[(.int .i64 p0), (.int .i64 p1)] H R :=
  spec_of_tree (cfg := { quiet := [16, 22, 23, 34, 35, 48, 49, 53, 57, 58, 59, 62, 105], quietTmp := true, fncs := [], ifcs := [] }) Try.func45 fun L => (t_magpielaw13_make1_eq p0 p1).symm ▸ h L

/- magpie/magpielaw13.awake -/
noncomputable def t_magpielaw13_awake : Tree :=
  .call f_magpielaw13_make1 [(.int .i64 2), (.int .i64 2)] (.tup [(.leaf .ptr), (.agg [(.int .i64), (.int .i64), (.int .i64), (.int .i64), (.int .i64)]), (.agg [(.int .i64), (.int .i64)])]) fun x6 =>
  .newP (.cells #[(.int .i64 0), (.int .i64 0), (.int .i64 0), (.int .i64 0), (.int .i64 0)] ty_free_Place) fun x2 =>
  .newP (.cells #[(.int .i64 0), (.int .i64 0)] ty_epoch_Table) fun x3 =>
  .stA x2 [(.int .i64 x6.2.1.1), (.int .i64 x6.2.1.2.1), (.int .i64 x6.2.1.2.2.1), (.int .i64 x6.2.1.2.2.2.1), (.int .i64 x6.2.1.2.2.2.2.1)] <|
  .stA x3 [(.int .i64 x6.2.2.1.1), (.int .i64 x6.2.2.1.2.1)] <|
  .ldA x3 [(.int .i64), (.int .i64)] fun x10 =>
  .ldA x2 [(.int .i64), (.int .i64), (.int .i64), (.int .i64), (.int .i64)] fun x11 =>
  .call f_epoch_NewTurn [(.agg #[(.int .i64 x10.1), (.int .i64 x10.2.1)]), (.agg #[(.int .i64 x11.1), (.int .i64 x11.2.1), (.int .i64 x11.2.2.1), (.int .i64 x11.2.2.2.1), (.int .i64 x11.2.2.2.2.1)]), (.int .i64 0), (.slice none 0 0)] (.one (.leaf .ptr)) fun x12 =>
  .look (opS Try.prog (.binOp .neq ty_p_arena_Arena (.tmp 0) (.const (.pointer none)) ty_p_arena_Arena) ty_bool [(.pointer x6.1)]) (.one (.leaf .bool)) fun x14 =>
  bif x14 then (
    .look (opS Try.prog (.binOp .neq ty_p_epoch_Turn (.tmp 0) (.const (.pointer none)) ty_p_epoch_Turn) ty_bool [(.pointer x12)]) (.one (.leaf .bool)) fun x17 =>
    bif x17 then (
      .call f_magpielaw13_run [(.pointer x6.1), (.iface ty_p_epoch_Turn (.pointer x12))] (.one (.leaf .bool)) fun x23 =>
      bif x23 then (
        .ldA x3 [(.int .i64), (.int .i64)] fun x27 =>
        .qcall f_epoch_Table_Global [(.agg #[(.int .i64 x27.1), (.int .i64 x27.2.1)])] (.one (.leaf (.int .i64))) fun x28 =>
        .call f_arena_Arena_Raw [(.pointer x6.1), (.int .i64 x28)] (.one (.leaf (.int .i64))) fun x29 =>
        bif ((x29 : Int) == 1) then (
          .call f_epoch_Turn_Left [(.pointer x12)] (.one (.leaf .slice)) fun x34 =>
          .ret (.bool ((((x34.len : Nat) : Int) : Int) == 0)))
        else (
          .ret (.bool false)))
      else (
        .ret (.bool false)))
    else (
      .ret (.bool false)))
  else (
    .ret (.bool false))
theorem t_magpielaw13_awake_eq : funcTree Try.prog { quiet := [16, 22, 23, 34, 35, 48, 49, 53, 57, 58, 59, 62, 105], quietTmp := true, fncs := [], ifcs := [] } Try.f50 [] = t_magpielaw13_awake  := by kernel_rfl
theorem t_magpielaw13_awake_spec {H : Heap} {R : Value → Heap → Prop} (h : ∀ L, wp Try.prog (t_magpielaw13_awake ) L H R) : SpecF Try.prog f_magpielaw13_awake #[] H R :=
  spec_of_tree (cfg := { quiet := [16, 22, 23, 34, 35, 48, 49, 53, 57, 58, 59, 62, 105], quietTmp := true, fncs := [], ifcs := [] }) Try.func50 fun L => (t_magpielaw13_awake_eq ).symm ▸ h L

end Go.Proofs.Ytfphgiipekkgdaa

set_option linter.unusedVariables false
set_option maxRecDepth 20000
namespace Go.Proofs.Ytfphgiipekkgdaa
open Go Go.Fw

theorem run13_go {M J : Type} {X : Mch M J} (hX : X.ok) {t : TypeId} (hinv : X.inv' t) {I : List Nat} {G : Heap} {n : Nat} {m m' : M} {A A' : Ar} (h : X.Runs n m A m' A') {L : Hands} :
    ∀ {i : Int} {b : Bool} {j : J} {R : Value → Heap → Prop}, (∀ j', Ok I G (keys (X.bl m' j')) → Aw I A' → X.addr j' = X.addr j → R (.bool true) (own A' (X.bl m' j') G)) → Aw I A → Ok I G (keys (X.bl m j)) → 0 ≤ i → i + n ≤ 2000 →
      wp Try.prog (.loop 128 t_magpielaw13_run_L1_sh [(.bool b), (.int .i64 i)] (t_magpielaw13_run_L1 (aI I) (.iface t (.pointer (some ⟨X.addr j, 0, none⟩))))) L (own A (X.bl m j) G) R := by
  induction h with
  | @one m A hi hu hf =>
    intro i b j R hR hA ok h0 h1
    refine wp_loop_unroll (b, i, ()) rfl ?_
    rw [t_magpielaw13_run_L1]
    refine wp_true (ilt (by show i < 2000; omega)) ?_
    refine w_Uses hA ?_
    refine act_enter (hinv _ _) ?_
    refine wp_call_of (hX I A G m j hA ok hi) ?_
    rintro v K ⟨j', rfl, rfl, ha, ok', hA'⟩
    refine ⟨true, by rw [hf], ?_⟩
    refine w_Uses hA' ?_
    refine wp_false (inlt hu) ?_
    exact wp_true rfl (wp_ret_of (hR j' ok' hA' ha))
  | @more n m A m' A' hi hu hf hr ih =>
    intro i b j R hR hA ok h0 h1
    refine wp_loop_unroll (b, i, ()) rfl ?_
    rw [t_magpielaw13_run_L1]
    refine wp_true (ilt (by show i < 2000; omega)) ?_
    refine w_Uses hA ?_
    refine act_enter (hinv _ _) ?_
    refine wp_call_of (hX I A G m j hA ok hi) ?_
    rintro v K ⟨j', rfl, rfl, ha, ok', hA'⟩
    refine ⟨false, by rw [hf], ?_⟩
    refine w_Uses hA' ?_
    refine wp_false (inlt hu) (wp_false rfl (wp_again ?_))
    have e : w64 (i + 1) = i + 1 := w64_in (by omega) (by omega)
    rw [e, ← ha]
    exact ih (fun j2 k1 k2 k3 => hR j2 k1 k2 (k3.trans ha)) hA' ok' (by omega) (by omega)

theorem run13 {M J : Type} {X : Mch M J} (hX : X.ok) {t : TypeId} (hinv : X.inv' t) {I : List Nat} {G : Heap} {n : Nat} {m m' : M} {A A' : Ar} (h : X.Runs n m A m' A') (hn : n ≤ 2000) {j : J} (hA : Aw I A) (ok : Ok I G (keys (X.bl m j))) :
    SpecF Try.prog f_magpielaw13_run #[.pointer (aI I), .iface t (.pointer (some ⟨X.addr j, 0, none⟩))] (own A (X.bl m j) G) fun v K => ∃ j', v = .bool true ∧ K = own A' (X.bl m' j') G ∧ Ok I G (keys (X.bl m' j')) ∧ Aw I A' ∧ X.addr j' = X.addr j := by
  refine t_magpielaw13_run_spec fun L => ?_
  unfold t_magpielaw13_run
  exact run13_go hX hinv h (fun j' a b c => ⟨j', rfl, rfl, a, b, c⟩) hA ok (Int.le_refl 0) (by omega)

theorem w_run13 {M J : Type} {X : Mch M J} (hX : X.ok) {t : TypeId} (hinv : X.inv' t) {I : List Nat} {G : Heap} {n : Nat} {m m' : M} {A A' : Ar} (h : X.Runs n m A m' A') (hn : n ≤ 2000) {j : J} {rest : Bl} (hA : Aw I A) (ok : Ok I G (keys (X.bl m j ++ rest)))
    {L : Hands} {R : Value → Heap → Prop} {k : Bool → Tree} (hk : ∀ j', X.addr j' = X.addr j → Aw I A' → Ok I G (keys (X.bl m' j' ++ rest)) → wp Try.prog (k true) L (own A' (X.bl m' j' ++ rest) G) R) :
    wp Try.prog (.call f_magpielaw13_run [.pointer (aI I), .iface t (.pointer (some ⟨X.addr j, 0, none⟩))] (.one (.leaf .bool)) k) L (own A (X.bl m j ++ rest) G) R := by
  rw [keys_append] at ok
  obtain ⟨o1, o2⟩ := ok.split
  refine w_sub (run13 hX hinv h hn hA o1) ?_
  rintro v K ⟨j', rfl, rfl, ok', hA', ha⟩
  refine ⟨true, rfl, ?_⟩
  rw [← own_append]
  exact hk j' ha hA' (by rw [keys_append]; exact ok'.join o2)
end Go.Proofs.Ytfphgiipekkgdaa

set_option linter.unusedVariables false
set_option maxRecDepth 20000
namespace Go.Proofs.Ytfphgiipekkgdaa
open Go Go.Fw

theorem runR13_go {M J : Type} {X : MchR M J} (hX : X.ok) {t : TypeId} (hinv : X.inv' t) {I : List Nat} {G : Heap} {n : Nat} {m m' : M} {A A' : Ar} (h : X.Runs n m A m' A') {L : Hands} :
    ∀ {i : Int} {b : Bool} {j : J} {R : Value → Heap → Prop}, (∀ j', Ok I G (keys (X.bl m' j')) → X.rep m' j' → Aw I A' → X.addr j' = X.addr j → R (.bool true) (own A' (X.bl m' j') G)) → Aw I A → Ok I G (keys (X.bl m j)) → X.rep m j → 0 ≤ i → i + n ≤ 2000 →
      wp Try.prog (.loop 128 t_magpielaw13_run_L1_sh [(.bool b), (.int .i64 i)] (t_magpielaw13_run_L1 (aI I) (.iface t (.pointer (some ⟨X.addr j, 0, none⟩))))) L (own A (X.bl m j) G) R := by
  induction h with
  | @one m A m1 A1 hi hst hu hf =>
    intro i b j R hR hA ok rp h0 h1
    refine wp_loop_unroll (b, i, ()) rfl ?_
    rw [t_magpielaw13_run_L1]
    refine wp_true (ilt (by show i < 2000; omega)) ?_
    refine w_Uses hA ?_
    refine act_enter (hinv _ _) ?_
    refine wp_call_of (hX I A G m j hA ok rp hi) ?_
    rintro v K ⟨j', rfl, rfl, ha, ok', rp', hA'⟩
    rw [hst] at ok' rp' hA' ⊢
    refine ⟨true, by rw [hf], ?_⟩
    refine w_Uses hA' ?_
    refine wp_false (inlt hu) ?_
    exact wp_true rfl (wp_ret_of (hR j' ok' rp' hA' ha))
  | @more n m A m1 A1 m' A' hi hst hu hf hr ih =>
    intro i b j R hR hA ok rp h0 h1
    refine wp_loop_unroll (b, i, ()) rfl ?_
    rw [t_magpielaw13_run_L1]
    refine wp_true (ilt (by show i < 2000; omega)) ?_
    refine w_Uses hA ?_
    refine act_enter (hinv _ _) ?_
    refine wp_call_of (hX I A G m j hA ok rp hi) ?_
    rintro v K ⟨j', rfl, rfl, ha, ok', rp', hA'⟩
    rw [hst] at ok' rp' hA' ⊢
    refine ⟨false, by rw [hf], ?_⟩
    refine w_Uses hA' ?_
    refine wp_false (inlt hu) (wp_false rfl (wp_again ?_))
    have e : w64 (i + 1) = i + 1 := w64_in (by omega) (by omega)
    rw [e, ← ha]
    exact ih (fun j2 k1 k2 k3 k4 => hR j2 k1 k2 k3 (k4.trans ha)) hA' ok' rp' (by omega) (by omega)

theorem w_runR13 {M J : Type} {X : MchR M J} (hX : X.ok) {t : TypeId} (hinv : X.inv' t) {I : List Nat} {G : Heap} {n : Nat} {m m' : M} {A A' : Ar} (h : X.Runs n m A m' A') (hn : n ≤ 2000) {j : J} {rest : Bl} (hA : Aw I A) (ok : Ok I G (keys (X.bl m j ++ rest))) (rp : X.rep m j)
    {L : Hands} {R : Value → Heap → Prop} {k : Bool → Tree} (hk : ∀ j', X.addr j' = X.addr j → Aw I A' → Ok I G (keys (X.bl m' j' ++ rest)) → X.rep m' j' → wp Try.prog (k true) L (own A' (X.bl m' j' ++ rest) G) R) :
    wp Try.prog (.call f_magpielaw13_run [.pointer (aI I), .iface t (.pointer (some ⟨X.addr j, 0, none⟩))] (.one (.leaf .bool)) k) L (own A (X.bl m j ++ rest) G) R := by
  rw [keys_append] at ok
  obtain ⟨o1, o2⟩ := ok.split
  refine w_sub (R0 := fun v K => ∃ j', v = .bool true ∧ K = own A' (X.bl m' j') (putL rest G) ∧ Ok I (putL rest G) (keys (X.bl m' j')) ∧ X.rep m' j' ∧ Aw I A' ∧ X.addr j' = X.addr j) ?_ ?_
  · refine t_magpielaw13_run_spec fun L => ?_
    unfold t_magpielaw13_run
    exact runR13_go hX hinv h (fun j' a b c d => ⟨j', rfl, rfl, a, b, c, d⟩) hA o1 rp (Int.le_refl 0) (by omega)
  · rintro v K ⟨j', rfl, rfl, ok', rp', hA', ha⟩
    refine ⟨true, rfl, ?_⟩
    rw [← own_append]
    exact hk j' ha hA' (by rw [keys_append]; exact ok'.join o2) rp'
end Go.Proofs.Ytfphgiipekkgdaa

set_option linter.unusedVariables false
set_option linter.unusedSimpArgs false
set_option maxRecDepth 20000
namespace Go.Proofs.Ytfphgiipekkgdaa
open Go Go.Fw

/-- An arena with epochs' words behind the slab's. -/
structure EZ (I : List Nat) (A : Ar) (w s : Int) (S : Sg) : Prop where
  aw : Aw I A
  sl : SL A (plOf w (8 * s)) w (8 * s) S
  fa : A.fault = false
  rl : (A.raw.length : Int) = 4 * w + 2 * s + 1 + (1 + w) + 1
  wb : 1 ≤ w ∧ w ≤ 9
  sb : 0 ≤ s ∧ s ≤ 50

section
variable {A B : Ar} {w s : Int} {S S' : Sg} {I : List Nat} {L : Hands} {R : Value → Heap → Prop} {G : Heap} {l : Bl}

theorem EZ.touch (E : EZ I A w s S) {i : Int} (h : 0 ≤ i ∧ i < 4 * w + 2 * s + 1 + (1 + w) + 1) (hu : A.uses ≤ 1000000) : A.touchR i = A.later 1 := tick_later ⟨h.1, by rw [E.rl]; exact h.2⟩ E.sl.F.us (by omega)
theorem EZ.later (E : EZ I A w s S) {n : Int} (hn : 0 ≤ n) : EZ I (A.later n) w s S := ⟨later_aw E.aw n, E.sl.later hn, E.fa, E.rl, E.wb, E.sb⟩
theorem EZ.out (E : EZ I A w s S) {i v : Int} (hA : Aw I B) (O : OutS A (plOf w (8 * s)) w (8 * s) S i v B) : EZ I B w s S := ⟨hA, O.sl, O.fa.trans E.fa, by rw [O.rl]; exact E.rl, E.wb, E.sb⟩
theorem EZ.swept (E : EZ I A w s S) {who : Int} {hs : List Int} (hA : Aw I B) (W : Swept A (plOf w (8 * s)) w (8 * s) S who hs B S') : EZ I B w s S' := ⟨hA, W.sl, W.off.fa.trans E.fa, by rw [W.off.rl]; exact E.rl, E.wb, E.sb⟩
theorem EZ.store (E : EZ I A w s S) {i v : Int} (h : 4 * w + 2 * s < i ∧ i < 4 * w + 2 * s + 1 + (1 + w) + 1) (hu : A.uses ≤ 1000000) : OutS A (plOf w (8 * s)) w (8 * s) S i v (A.storeR i v) := by
  have sb := E.sb
  refine outS E.sl ⟨by show 4 * w + 2 * ((8 * s + 7) / 8) < i; omega, by rw [E.rl]; exact h.2⟩ (by omega)

theorem emake_spec (w s : Int) (wb : 1 ≤ w ∧ w ≤ 9) (sb : 0 ≤ s ∧ s ≤ 50) (H : Heap) : SpecF Try.prog f_magpielaw13_make1 #[.int .i64 w, .int .i64 s] H fun v K => ∃ A : Ar, v = .tuple #[.pointer (aI A.ids), (plOf w (8 * s)).val, .agg #[.int .i64 w, .int .i64 (4 * w + 2 * s + 1)]] ∧
    K = own A [] H ∧ (∀ x ∈ A.ids, H x = none) ∧ Ok A.ids H [] ∧ EZ A.ids A w s ⟨fun _ => [], 0, fun _ => 0, fun _ => -1, 0⟩ ∧ (∀ i, A.rawF i = 0) ∧ A.uses = 0 ∧ A.nL = 0 ∧ A.nR = 0 := by
  refine t_magpielaw13_make1_spec fun L => ?_
  unfold t_magpielaw13_make1
  have e8 : w64 (8 * s) = 8 * s := w64_in (by omega) (by omega)
  have ed : (8 * s + 7) / 8 = s := by omega
  rw [e8]
  have ok0 : Ok0 H (keys []) := ⟨.nil, fun b h => (by cases h)⟩
  refine p_newP (l := []) ok0 fun x5 ok0 => ?_
  refine p_newP ok0 fun x6 ok0 => ?_
  refine w_Raw5 ⟨by omega, by omega⟩ ⟨by omega, by omega⟩ ?_
  rw [ed]
  refine p_newP ok0 fun x7 ok0 => ?_
  refine p_stA 0 ok0 rfl rfl rfl rfl ?_
  refine wq_ERaw ⟨by omega, by omega⟩ ?_
  refine p_newP ok0 fun x9 ok0 => ?_
  refine p_stA 0 ok0 rfl rfl rfl rfl ?_
  dsimp only
  have en : w64 (w64 (4 * w + 2 * s + 1 + (1 + w)) + 1) = 4 * w + 2 * s + 1 + (1 + w) + 1 := by
    rw [w64_in (x := 4 * w + 2 * s + 1 + (1 + w)) (by omega) (by omega), w64_in (by omega) (by omega)]
  rw [en]
  have ok0 : Ok0 H (keys [(x9, oc ty_epoch_Table (tbC w (4 * w + 2 * s + 1))), (x7, oc ty_free_Place (plCells (plOf w (8 * s)))), (x6, oc ty_epoch_Table (tbC 0 0)), (x5, oc ty_free_Place (plCells ⟨0, 0, 0, 0, 0⟩))]) := ok0
  refine p_ldA (l := [(x9, oc ty_epoch_Table (tbC w (4 * w + 2 * s + 1))), (x7, oc ty_free_Place (plCells (plOf w (8 * s)))), (x6, oc ty_epoch_Table (tbC 0 0)), (x5, oc ty_free_Place (plCells ⟨0, 0, 0, 0, 0⟩))]) 1 ok0 rfl rfl rfl ?_
  refine p_ldA 0 ok0 rfl rfl rfl ?_
  refine w_New ok0 ⟨by omega, by omega⟩ ⟨by omega, by omega⟩ fun A hm hA hI ok => ?_
  refine w_ckA 0 hA ok rfl rfl rfl rfl ?_
  refine w_ckA 1 hA ok rfl rfl rfl rfl ?_
  refine w_stA 3 hA ok rfl rfl rfl rfl ?_
  refine w_ckA 0 hA ok rfl rfl rfl rfl ?_
  refine w_stA 2 hA ok rfl rfl rfl rfl ?_
  refine ⟨(aI A.ids, (w, 0, 4 * w, 4 * w + (8 * s + 7) / 8, 4 * w + 2 * ((8 * s + 7) / 8), ()), (w, 4 * w + 2 * s + 1, ()), ()), ?_, ?_⟩
  · refine ldK_still (own_get (i := 3) hA (by exact ok) rfl) 5 0 #[] (by exact Nat.le_refl 5) ?_
    refine ldK_still (own_get (i := 2) hA (by exact ok) rfl) 2 0 #[] (by exact Nat.le_refl 2) ?_
    rfl
  have ok' : Ok A.ids H (keys ([] : Bl)) := ⟨.nil, fun b hb => by simp [keys] at hb, fun b hb => by simp [keys] at hb⟩
  refine ⟨own A [] H, own_sub ok ok'.nd fun p hp => (by cases hp), A, rfl, rfl, hI, ok', ⟨hA, SL.made hm ?_ ⟨wb.1, by omega⟩ ⟨by omega, by omega⟩, hm.fault, ?_, wb, sb⟩, fun i => ?_, hm.uses, hm.nL, hm.nR⟩
  · show 4 * w + 2 * ((8 * s + 7) / 8) < _; omega
  · rw [hm.raw, List.length_replicate]; omega
  · unfold Ar.rawF
    split
    · rename_i h; rw [hm.raw, List.getD_eq_getElem?_getD, List.getElem?_replicate]; split <;> rfl
    · rfl

theorem nnT (a : Addr) : opS Try.prog (.binOp .neq ty_p_epoch_Turn (.tmp 0) (.const (.pointer none)) ty_p_epoch_Turn) ty_bool [(.pointer (some a))] = .pure (.value (.bool true)) := by kernel_rfl
theorem eqT (a : Addr) : opS Try.prog (.binOp .eql ty_p_epoch_Turn (.tmp 0) (.const (.pointer none)) ty_p_epoch_Turn) ty_bool [(.pointer (some a))] = .pure (.value (.bool false)) := by kernel_rfl
theorem eqP (a : Addr) : opS Try.prog (.binOp .eql ty_p_epoch_Pin (.tmp 0) (.const (.pointer none)) ty_p_epoch_Pin) ty_bool [(.pointer (some a))] = .pure (.value (.bool false)) := by kernel_rfl

/-- A turn with nobody in its way, by itself. -/
theorem EZ.free (E : EZ I A w s S) {xs : List (Int × Int)} {e : Int} (hu : A.uses ≤ 100000) (he : A.rawF (4 * w + 2 * s + 1) = e) (eb : 0 ≤ e ∧ e ≤ 1000000) (ll : xs.length ≤ 50) (nd : (xs.map Prod.fst).Nodup) (nr : 8 * xs.length ≤ A.nR) (hh : ∀ x ∈ xs, A.stF x.1 = 2 ∧ opC x.1 = 0)
    (hw : ∀ i : Int, 0 ≤ i → i < w → A.rawF (4 * w + 2 * s + 1 + 1 + i) = 0 ∨ A.rawF (4 * w + 2 * s + 1 + 1 + i) = e + 1) :
    ∃ A' S' m' n, mTn.Runs n (newTn w (4 * w + 2 * s + 1) (plOf w (8 * s)) 0 xs) A m' A' ∧ n ≤ 2000 ∧ m'.left = tleft (e + 1) xs ∧ 4 ≤ m'.ph ∧ (Aw I A' → EZ I A' w s S') ∧ A'.uses = A.uses + 2 + w + 3 * (tgone (e + 1) xs).length ∧
      A'.rawF (4 * w + 2 * s + 1) = e + 1 ∧ (∀ i, 4 * w + 2 * s + 1 < i → A'.rawF i = A.rawF i) ∧ (∀ k, A'.stF k = if k ∈ tgone (e + 1) xs then 0 else A.stF k) ∧ A'.nR = A.nR - 8 * (tgone (e + 1) xs).length := by
  have wb := E.wb
  have sb := E.sb
  have rl := E.rl
  have cd : (plOf w (8 * s)).carved = 4 * w + 2 * s := by show 4 * w + 2 * ((8 * s + 7) / 8) = _; omega
  obtain ⟨B, A', S', m', n, r, en, q1, q2, O, W⟩ := turn_free (who := 0) (xs := xs) E.sl E.aw.wf (tw := w) (ta := 4 * w + 2 * s + 1) ⟨by omega, by omega⟩ (by omega) (by omega) (by omega) (by omega) (by omega) he eb ⟨by omega, by omega⟩ nd nr hh fun i hi => hw i (by omega) hi
  have gl : (tgone (e + 1) xs).length ≤ xs.length := by unfold tgone; rw [List.length_map]; exact List.length_filter_le _ _
  have us := W.off.us
  have ous := O.us
  refine ⟨A', S', m', n, r, by omega, q1, q2, fun hA => ⟨hA, W.sl, W.off.fa.trans (O.fa.trans E.fa), by rw [W.off.rl, O.rl]; exact E.rl, E.wb, E.sb⟩, ?_, ?_, fun i hi => ?_, fun k => ?_, ?_⟩
  · rw [us, ous]; show A.uses + (1 + w) + 1 + _ = _; omega
  · rw [W.off.rw _ (by omega), O.rf, if_pos rfl]
  · rw [W.off.rw _ (by omega), O.rf, if_neg (by omega)]; rfl
  · rw [W.st, O.st]; rfl
  · rw [W.nR, O.nR]; rfl

/-- A turn with one behind. -/
theorem EZ.block (E : EZ I A w s S) {xs : List (Int × Int)} {e k : Int} (hu : A.uses ≤ 100000) (he : A.rawF (4 * w + 2 * s + 1) = e) (eb : 0 ≤ e ∧ e ≤ 1000000) (ll : xs.length ≤ 50) (nd : (xs.map Prod.fst).Nodup) (nr : 8 * xs.length ≤ A.nR) (hh : ∀ x ∈ xs, A.stF x.1 = 2 ∧ opC x.1 = 0)
    (hk : 0 ≤ k ∧ k < w) (hw : ∀ i : Int, 0 ≤ i → i < k → A.rawF (4 * w + 2 * s + 1 + 1 + i) = 0 ∨ A.rawF (4 * w + 2 * s + 1 + 1 + i) = e + 1) (hn : A.rawF (4 * w + 2 * s + 1 + 1 + k) ≠ 0 ∧ A.rawF (4 * w + 2 * s + 1 + 1 + k) ≠ e + 1) :
    ∃ A' S' m' n, mTn.Runs n (newTn w (4 * w + 2 * s + 1) (plOf w (8 * s)) 0 xs) A m' A' ∧ n ≤ 2000 ∧ m'.left = tleft e xs ∧ 4 ≤ m'.ph ∧ (Aw I A' → EZ I A' w s S') ∧ A'.uses = A.uses + 2 + k + 3 * (tgone e xs).length ∧
      (∀ i, 4 * w + 2 * s < i → A'.rawF i = A.rawF i) ∧ (∀ k, A'.stF k = if k ∈ tgone e xs then 0 else A.stF k) ∧ A'.nR = A.nR - 8 * (tgone e xs).length := by
  have wb := E.wb
  have sb := E.sb
  have rl := E.rl
  have cd : (plOf w (8 * s)).carved = 4 * w + 2 * s := by show 4 * w + 2 * ((8 * s + 7) / 8) = _; omega
  have ek : ((k.toNat : Nat) : Int) = k := by omega
  obtain ⟨A', S', m', n, r, en, q1, q2, W⟩ := turn_block (who := 0) (xs := xs) E.sl E.aw.wf (tw := w) (ta := 4 * w + 2 * s + 1) ⟨by omega, by omega⟩ (by omega) (by omega) (by omega) (by omega) (by omega) he eb ⟨by omega, by omega⟩ nd nr hh (k := k.toNat) (by omega) (fun i hi => hw i (by omega) (by omega)) (by rw [ek]; exact hn)
  have gl : (tgone e xs).length ≤ xs.length := by unfold tgone; rw [List.length_map]; exact List.length_filter_le _ _
  have us := W.off.us
  rw [ek] at W us
  refine ⟨A', S', m', n, r, by omega, q1, q2, fun hA => ⟨hA, W.sl, W.off.fa.trans E.fa, by rw [W.off.rl]; exact E.rl, E.wb, E.sb⟩, ?_, fun i hi => ?_, fun k => ?_, ?_⟩
  · rw [us]; show A.uses + (2 + k) + _ = _; omega
  · rw [W.off.rw _ (by omega)]; rfl
  · rw [W.st]; rfl
  · rw [W.nR]; rfl

theorem awake13_det (H : Heap) : Det Try.prog f_magpielaw13_awake [] H (.bool true) H := by
  refine t_magpielaw13_awake_spec fun L => ?_
  unfold t_magpielaw13_awake
  refine wp_call_of (emake_spec 2 2 (by decide) (by decide) H) ?_
  rintro v K ⟨A, rfl, rfl, hI, ok, E, r0, u0, nl, nr⟩
  refine ⟨(aI A.ids, (2, 0, 4 * 2, 4 * 2 + (8 * 2 + 7) / 8, 4 * 2 + 2 * ((8 * 2 + 7) / 8), ()), (2, 4 * 2 + 2 * 2 + 1, ()), ()), rfl, ?_⟩
  have hA := E.aw
  have ok : Ok A.ids H (keys ([] : Bl)) := ok
  refine w_newP hA ok fun x2 ok => ?_
  refine w_newP hA ok fun x3 ok => ?_
  refine w_stA 1 hA ok rfl rfl rfl rfl ?_
  refine w_stA 0 hA ok rfl rfl rfl rfl ?_
  refine w_ldA 0 hA ok rfl rfl rfl ?_
  refine w_ldA 1 hA ok rfl rfl rfl ?_
  have ok : Ok A.ids H (keys [(x3, oc ty_epoch_Table (tbC 2 13)), (x2, oc ty_free_Place (plCells (plOf 2 16)))]) := ok
  show wp Try.prog _ _ (own A [(x3, oc ty_epoch_Table (tbC 2 13)), (x2, oc ty_free_Place (plCells (plOf 2 16)))] H) _
  refine w_NewTurn (tw := 2) (ta := 13) (work := 0) (p := plOf 2 16) (xs := []) (s := sl0) hA ok (.inl ⟨rfl, rfl⟩) (by show 0 ≤ 1000; decide) fun j okj rpj => ?_
  refine look_val (x := true) (nnA _) (wp_true rfl ?_)
  refine look_val (x := true) (nnT _) (wp_true rfl ?_)
  obtain ⟨A', S', m', n, run, hn, ml, mp, E', us, g, rw', st, nR⟩ := E.free (xs := []) (e := 0) (by omega) (r0 _) (by decide) (by show 0 ≤ 50; decide) (by simp) (by rw [nr]; decide) (fun x hx => by cases hx) fun i _ _ => .inl (r0 _)
  refine w_runR13 mTn_ok mTn_inv run hn (j := j) hA okj rpj fun j' ha hA2 ok2 rp2 => ?_
  refine wp_true rfl ?_
  obtain ⟨ix, hix⟩ := mem_idx (l := m'.bl j' ++ [(x3, oc ty_epoch_Table (tbC 2 13)), (x2, oc ty_free_Place (plCells (plOf 2 16)))]) (p := (x3, oc ty_epoch_Table (tbC 2 13))) (List.mem_append_right _ List.mem_cons_self)
  refine w_ldA ix hA2 ok2 rfl hix rfl ?_
  refine wq_Global (tw := 2) (ta := 13) ?_
  refine w_Raw hA2 fun hA3 => ?_
  refine wp_true (ibeq g) ?_
  have ha : j'.q = j.q := ha
  rw [← ha]
  refine w_TLeft hA3 ok2 rp2 mp (by rw [ml]; show 0 ≤ 1000; decide) fun s1 tl1 hs1 ok3 => ?_
  rw [ml] at hs1
  refine ⟨H, own_end hA3 ok3 hI, ?_, rfl⟩
  show Value.bool (((s1.len : Nat) : Int) == 0) = _
  rw [hs1.len]; rfl
end
end Go.Proofs.Ytfphgiipekkgdaa

set_option linter.unusedVariables false
set_option maxRecDepth 10000
namespace Go.Proofs.Ytfphgiipekkgdaa
open Go Go.Fw
/- magpie/magpielaw13.EpochSteps -/
noncomputable def t_magpielaw13_EpochSteps (p0 : Int) (p1 : Int) : Tree :=
  .qcall f_magpielaw00_Place [(.int .i64 p0), (.int .i64 8)] (.one (.leaf (.int .i64))) fun x14 =>
  .call f_magpielaw13_make1 [(.int .i64 (w64 (1 + x14))), (.int .i64 1)] (.tup [(.leaf .ptr), (.agg [(.int .i64), (.int .i64), (.int .i64), (.int .i64), (.int .i64)]), (.agg [(.int .i64), (.int .i64)])]) fun x18 =>
  .newP (.cells #[(.int .i64 0), (.int .i64 0), (.int .i64 0), (.int .i64 0), (.int .i64 0)] ty_free_Place) fun x7 =>
  .newP (.cells #[(.int .i64 0), (.int .i64 0)] ty_epoch_Table) fun x8 =>
  .stA x7 [(.int .i64 x18.2.1.1), (.int .i64 x18.2.1.2.1), (.int .i64 x18.2.1.2.2.1), (.int .i64 x18.2.1.2.2.2.1), (.int .i64 x18.2.1.2.2.2.2.1)] <|
  .stA x8 [(.int .i64 x18.2.2.1.1), (.int .i64 x18.2.2.1.2.1)] <|
  .ldA x8 [(.int .i64), (.int .i64)] fun x22 =>
  .ldA x7 [(.int .i64), (.int .i64), (.int .i64), (.int .i64), (.int .i64)] fun x23 =>
  .call f_epoch_NewTurn [(.agg #[(.int .i64 x22.1), (.int .i64 x22.2.1)]), (.agg #[(.int .i64 x23.1), (.int .i64 x23.2.1), (.int .i64 x23.2.2.1), (.int .i64 x23.2.2.2.1), (.int .i64 x23.2.2.2.2.1)]), (.int .i64 0), (.slice none 0 0)] (.one (.leaf .ptr)) fun x24 =>
  .look (opS Try.prog (.binOp .eql ty_p_arena_Arena (.tmp 0) (.const (.pointer none)) ty_p_arena_Arena) ty_bool [(.pointer x18.1)]) (.one (.leaf .bool)) fun x26 =>
  bif x26 then (
    .ret (.bool false))
  else (
    .look (opS Try.prog (.binOp .eql ty_p_epoch_Turn (.tmp 0) (.const (.pointer none)) ty_p_epoch_Turn) ty_bool [(.pointer x24)]) (.one (.leaf .bool)) fun x29 =>
    bif x29 then (
      .ret (.bool false))
    else (
      .call f_arena_Arena_Uses [(.pointer x18.1)] (.one (.leaf (.int .i64))) fun x32 =>
      .call f_magpielaw13_run [(.pointer x18.1), (.iface ty_p_epoch_Turn (.pointer x24))] (.one (.leaf .bool)) fun x36 =>
      bif (!x36) then (
        .ret (.bool false))
      else (
        .call f_arena_Arena_Uses [(.pointer x18.1)] (.one (.leaf (.int .i64))) fun x40 =>
        bif ((x40 : Int) != (w64 ((w64 (x32 + 2)) + (w64 (1 + x14))))) then (
          .ret (.bool false))
        else (
          .ldA x8 [(.int .i64), (.int .i64)] fun x49 =>
          .qcall f_epoch_Table_Global [(.agg #[(.int .i64 x49.1), (.int .i64 x49.2.1)])] (.one (.leaf (.int .i64))) fun x50 =>
          .call f_arena_Arena_Raw [(.pointer x18.1), (.int .i64 x50)] (.one (.leaf (.int .i64))) fun x51 =>
          bif ((x51 : Int) != 1) then (
            .ret (.bool false))
          else (
            .qcall f_magpielaw00_Place [(.int .i64 p1), (.int .i64 (w64 (1 + x14)))] (.one (.leaf (.int .i64))) fun x56 =>
            .ldA x8 [(.int .i64), (.int .i64)] fun x58 =>
            .qcall f_epoch_Table_Word [(.agg #[(.int .i64 x58.1), (.int .i64 x58.2.1)]), (.int .i64 x56)] (.one (.leaf (.int .i64))) fun x60 =>
            .call f_arena_Arena_SetRaw [(.pointer x18.1), (.int .i64 x60), (.int .i64 1)] .unit fun _ =>
            .ldA x8 [(.int .i64), (.int .i64)] fun x62 =>
            .ldA x7 [(.int .i64), (.int .i64), (.int .i64), (.int .i64), (.int .i64)] fun x63 =>
            .call f_epoch_NewTurn [(.agg #[(.int .i64 x62.1), (.int .i64 x62.2.1)]), (.agg #[(.int .i64 x63.1), (.int .i64 x63.2.1), (.int .i64 x63.2.2.1), (.int .i64 x63.2.2.2.1), (.int .i64 x63.2.2.2.2.1)]), (.int .i64 0), (.slice none 0 0)] (.one (.leaf .ptr)) fun x64 =>
            .call f_arena_Arena_Uses [(.pointer x18.1)] (.one (.leaf (.int .i64))) fun x66 =>
            .look (opS Try.prog (.binOp .neq ty_p_epoch_Turn (.tmp 0) (.const (.pointer none)) ty_p_epoch_Turn) ty_bool [(.pointer x64)]) (.one (.leaf .bool)) fun x68 =>
            bif x68 then (
              .call f_magpielaw13_run [(.pointer x18.1), (.iface ty_p_epoch_Turn (.pointer x64))] (.one (.leaf .bool)) fun x73 =>
              bif x73 then (
                .call f_arena_Arena_Uses [(.pointer x18.1)] (.one (.leaf (.int .i64))) fun x77 =>
                bif ((x77 : Int) == (w64 ((w64 (x66 + 2)) + x56))) then (
                  .ldA x8 [(.int .i64), (.int .i64)] fun x86 =>
                  .qcall f_epoch_Table_Global [(.agg #[(.int .i64 x86.1), (.int .i64 x86.2.1)])] (.one (.leaf (.int .i64))) fun x87 =>
                  .call f_arena_Arena_Raw [(.pointer x18.1), (.int .i64 x87)] (.one (.leaf (.int .i64))) fun x88 =>
                  bif ((x88 : Int) == 1) then (
                    .call f_arena_Arena_Fault [(.pointer x18.1)] (.one (.leaf .bool)) fun x93 =>
                    bif (!x93) then (
                      .call f_magpielaw13_awake [] (.one (.leaf .bool)) fun x97 =>
                      .ret (.bool x97))
                    else (
                      .ret (.bool false)))
                  else (
                    .ret (.bool false)))
                else (
                  .ret (.bool false)))
              else (
                .ret (.bool false)))
            else (
              .ret (.bool false)))))))
theorem t_magpielaw13_EpochSteps_eq (p0 : Int) (p1 : Int) : funcTree Try.prog { quiet := [16, 22, 23, 34, 35, 48, 49, 53, 57, 58, 59, 62, 105], quietTmp := true, fncs := [], ifcs := [] } Try.f12 [(.int .i64 p0), (.int .i64 p1)] = t_magpielaw13_EpochSteps p0 p1 := by kernel_rfl
theorem t_magpielaw13_EpochSteps_spec {p0 : Int} {p1 : Int} {H : Heap} {R : Value → Heap → Prop} (h : ∀ L, wp Try.prog (t_magpielaw13_EpochSteps p0 p1) L H R) : SpecF Try.prog f_magpielaw13_EpochSteps #[(.int .i64 p0), (.int .i64 p1)] H R :=
  spec_of_tree (cfg := { quiet := [16, 22, 23, 34, 35, 48, 49, 53, 57, 58, 59, 62, 105], quietTmp := true, fncs := [], ifcs := [] }) Try.func12 fun L => (t_magpielaw13_EpochSteps_eq p0 p1).symm ▸ h L

/- magpie/magpielaw13.EpochPins -/
@[reducible] def t_magpielaw13_EpochPins_L2_sh : List Sh1 := [(.leaf .bool), (.leaf (.int .i64))]
noncomputable def t_magpielaw13_EpochPins_L2 (x20 : Int) (x23 : Int) (x26 : HL Sh1.T [(.leaf .ptr), (.agg [(.int .i64), (.int .i64), (.int .i64), (.int .i64), (.int .i64)]), (.agg [(.int .i64), (.int .i64)])]) (x11 : Addr) (x51 : Int) (y2 : HL Sh1.T t_magpielaw13_EpochPins_L2_sh) : Tree :=
  bif (decide ((y2.2.1 : Int) < (w64 (1 + x20)))) then (
    .ldA x11 [(.int .i64), (.int .i64)] fun x87 =>
    .qcall f_epoch_Table_Word [(.agg #[(.int .i64 x87.1), (.int .i64 x87.2.1)]), (.int .i64 y2.2.1)] (.one (.leaf (.int .i64))) fun x89 =>
    .call f_arena_Arena_Raw [(.pointer x26.1), (.int .i64 x89)] (.one (.leaf (.int .i64))) fun x90 =>
    bif ((y2.2.1 : Int) == x51) then (
      bif ((x90 : Int) != (w64 (x23 + 1))) then (
        .ret (.bool false))
      else (
        bif ((y2.2.1 : Int) != x51) then (
          bif ((x90 : Int) != 0) then (
            .ret (.bool false))
          else (
            .again 1088 [(.bool y2.1), (.int .i64 (w64 (y2.2.1 + 1)))]))
        else (
          .again 1088 [(.bool y2.1), (.int .i64 (w64 (y2.2.1 + 1)))])))
    else (
      bif ((y2.2.1 : Int) != x51) then (
        bif ((x90 : Int) != 0) then (
          .ret (.bool false))
        else (
          .again 1088 [(.bool y2.1), (.int .i64 (w64 (y2.2.1 + 1)))]))
      else (
        .again 1088 [(.bool y2.1), (.int .i64 (w64 (y2.2.1 + 1)))])))
  else (
    .call f_magpielaw13_awake [] (.one (.leaf .bool)) fun x109 =>
    .ret (.bool x109))

@[reducible] def t_magpielaw13_EpochPins_L1_sh : List Sh1 := [(.leaf .bool), (.leaf (.int .i64))]
noncomputable def t_magpielaw13_EpochPins_L1 (p2 : Int) (x20 : Int) (x23 : Int) (x26 : HL Sh1.T [(.leaf .ptr), (.agg [(.int .i64), (.int .i64), (.int .i64), (.int .i64), (.int .i64)]), (.agg [(.int .i64), (.int .i64)])]) (x10 : Addr) (x11 : Addr) (y1 : HL Sh1.T t_magpielaw13_EpochPins_L1_sh) : Tree :=
  bif (decide ((y1.2.1 : Int) < x23)) then (
    .ldA x11 [(.int .i64), (.int .i64)] fun x37 =>
    .ldA x10 [(.int .i64), (.int .i64), (.int .i64), (.int .i64), (.int .i64)] fun x38 =>
    .call f_epoch_NewTurn [(.agg #[(.int .i64 x37.1), (.int .i64 x37.2.1)]), (.agg #[(.int .i64 x38.1), (.int .i64 x38.2.1), (.int .i64 x38.2.2.1), (.int .i64 x38.2.2.2.1), (.int .i64 x38.2.2.2.2.1)]), (.int .i64 0), (.slice none 0 0)] (.one (.leaf .ptr)) fun x39 =>
    .look (opS Try.prog (.binOp .eql ty_p_epoch_Turn (.tmp 0) (.const (.pointer none)) ty_p_epoch_Turn) ty_bool [(.pointer x39)]) (.one (.leaf .bool)) fun x41 =>
    bif x41 then (
      .ret (.bool false))
    else (
      .call f_magpielaw13_run [(.pointer x26.1), (.iface ty_p_epoch_Turn (.pointer x39))] (.one (.leaf .bool)) fun x46 =>
      bif (!x46) then (
        .ret (.bool false))
      else (
        .again 384 [(.bool y1.1), (.int .i64 (w64 (y1.2.1 + 1)))])))
  else (
    .qcall f_magpielaw00_Place [(.int .i64 p2), (.int .i64 (w64 (1 + x20)))] (.one (.leaf (.int .i64))) fun x51 =>
    .ldA x11 [(.int .i64), (.int .i64)] fun x52 =>
    .call f_epoch_NewPin [(.agg #[(.int .i64 x52.1), (.int .i64 x52.2.1)]), (.int .i64 x51)] (.one (.leaf .ptr)) fun x54 =>
    .call f_arena_Arena_Uses [(.pointer x26.1)] (.one (.leaf (.int .i64))) fun x56 =>
    .look (opS Try.prog (.binOp .eql ty_p_epoch_Pin (.tmp 0) (.const (.pointer none)) ty_p_epoch_Pin) ty_bool [(.pointer x54)]) (.one (.leaf .bool)) fun x58 =>
    bif x58 then (
      .ret (.bool false))
    else (
      .call f_magpielaw13_run [(.pointer x26.1), (.iface ty_p_epoch_Pin (.pointer x54))] (.one (.leaf .bool)) fun x63 =>
      bif (!x63) then (
        .ret (.bool false))
      else (
        .call f_arena_Arena_Uses [(.pointer x26.1)] (.one (.leaf (.int .i64))) fun x68 =>
        bif ((x68 : Int) != (w64 (x56 + 3))) then (
          .ret (.bool false))
        else (
          .ldA x11 [(.int .i64), (.int .i64)] fun x75 =>
          .qcall f_epoch_Table_Global [(.agg #[(.int .i64 x75.1), (.int .i64 x75.2.1)])] (.one (.leaf (.int .i64))) fun x76 =>
          .call f_arena_Arena_Raw [(.pointer x26.1), (.int .i64 x76)] (.one (.leaf (.int .i64))) fun x77 =>
          bif ((x77 : Int) != x23) then (
            .ret (.bool false))
          else (
            .loop 1088 t_magpielaw13_EpochPins_L2_sh [(.bool y1.1), (.int .i64 0)] (t_magpielaw13_EpochPins_L2 x20 x23 x26 x11 x51))))))
noncomputable def t_magpielaw13_EpochPins (p0 : Int) (p1 : Int) (p2 : Int) : Tree :=
  .qcall f_magpielaw00_Place [(.int .i64 p0), (.int .i64 8)] (.one (.leaf (.int .i64))) fun x20 =>
  .qcall f_magpielaw00_Place [(.int .i64 p1), (.int .i64 10)] (.one (.leaf (.int .i64))) fun x23 =>
  .call f_magpielaw13_make1 [(.int .i64 (w64 (1 + x20))), (.int .i64 1)] (.tup [(.leaf .ptr), (.agg [(.int .i64), (.int .i64), (.int .i64), (.int .i64), (.int .i64)]), (.agg [(.int .i64), (.int .i64)])]) fun x26 =>
  .newP (.cells #[(.int .i64 0), (.int .i64 0), (.int .i64 0), (.int .i64 0), (.int .i64 0)] ty_free_Place) fun x10 =>
  .newP (.cells #[(.int .i64 0), (.int .i64 0)] ty_epoch_Table) fun x11 =>
  .stA x10 [(.int .i64 x26.2.1.1), (.int .i64 x26.2.1.2.1), (.int .i64 x26.2.1.2.2.1), (.int .i64 x26.2.1.2.2.2.1), (.int .i64 x26.2.1.2.2.2.2.1)] <|
  .stA x11 [(.int .i64 x26.2.2.1.1), (.int .i64 x26.2.2.1.2.1)] <|
  .look (opS Try.prog (.binOp .eql ty_p_arena_Arena (.tmp 0) (.const (.pointer none)) ty_p_arena_Arena) ty_bool [(.pointer x26.1)]) (.one (.leaf .bool)) fun x31 =>
  bif x31 then (
    .ret (.bool false))
  else (
    .loop 384 t_magpielaw13_EpochPins_L1_sh [(.bool false), (.int .i64 0)] (t_magpielaw13_EpochPins_L1 p2 x20 x23 x26 x10 x11))
theorem t_magpielaw13_EpochPins_eq (p0 : Int) (p1 : Int) (p2 : Int) : funcTree Try.prog { quiet := [16, 22, 23, 34, 35, 48, 49, 53, 57, 58, 59, 62, 105], quietTmp := true, fncs := [], ifcs := [] } Try.f13 [(.int .i64 p0), (.int .i64 p1), (.int .i64 p2)] = t_magpielaw13_EpochPins p0 p1 p2 := by kernel_rfl
theorem t_magpielaw13_EpochPins_spec {p0 : Int} {p1 : Int} {p2 : Int} {H : Heap} {R : Value → Heap → Prop} (h : ∀ L, wp Try.prog (t_magpielaw13_EpochPins p0 p1 p2) L H R) : SpecF Try.prog f_magpielaw13_EpochPins #[(.int .i64 p0), (.int .i64 p1), (.int .i64 p2)] H R :=
  spec_of_tree (cfg := { quiet := [16, 22, 23, 34, 35, 48, 49, 53, 57, 58, 59, 62, 105], quietTmp := true, fncs := [], ifcs := [] }) Try.func13 fun L => (t_magpielaw13_EpochPins_eq p0 p1 p2).symm ▸ h L

/- magpie/magpielaw13.EpochTurns -/
noncomputable def t_magpielaw13_EpochTurns_J9 (x31 : Int) (x34 : Int) (x38 : HL Sh1.T [(.leaf .ptr), (.agg [(.int .i64), (.int .i64), (.int .i64), (.int .i64), (.int .i64)]), (.agg [(.int .i64), (.int .i64)])]) (x14 : Addr) (x15 : Addr) (y2 : HL Sh1.T [(.leaf .bool), (.leaf .slice), (.leaf (.int .i64)), (.leaf (.int .i64))]) : Tree :=
  .ldA x15 [(.int .i64), (.int .i64)] fun x106 =>
  .ldA x14 [(.int .i64), (.int .i64), (.int .i64), (.int .i64), (.int .i64)] fun x107 =>
  .call f_epoch_NewTurn [(.agg #[(.int .i64 x106.1), (.int .i64 x106.2.1)]), (.agg #[(.int .i64 x107.1), (.int .i64 x107.2.1), (.int .i64 x107.2.2.1), (.int .i64 x107.2.2.2.1), (.int .i64 x107.2.2.2.2.1)]), (.int .i64 0), (.slice y2.2.1.a y2.2.1.len y2.2.1.cap)] (.one (.leaf .ptr)) fun x109 =>
  .look (opS Try.prog (.binOp .eql ty_p_epoch_Turn (.tmp 0) (.const (.pointer none)) ty_p_epoch_Turn) ty_bool [(.pointer x109)]) (.one (.leaf .bool)) fun x111 =>
  bif x111 then (
    .ret (.bool false))
  else (
    .call f_magpielaw13_run [(.pointer x38.1), (.iface ty_p_epoch_Turn (.pointer x109))] (.one (.leaf .bool)) fun x116 =>
    bif (!x116) then (
      .ret (.bool false))
    else (
      bif (decide ((y2.2.2.2.1 : Int) ≤ x34)) then (
        .call f_epoch_Turn_Left [(.pointer x109)] (.one (.leaf .slice)) fun x125 =>
        .ldA x15 [(.int .i64), (.int .i64)] fun x127 =>
        .qcall f_epoch_Table_Global [(.agg #[(.int .i64 x127.1), (.int .i64 x127.2.1)])] (.one (.leaf (.int .i64))) fun x128 =>
        .call f_arena_Arena_Raw [(.pointer x38.1), (.int .i64 x128)] (.one (.leaf (.int .i64))) fun x129 =>
        bif ((x129 : Int) != (w64 (y2.2.2.1 + 1))) then (
          .ret (.bool false))
        else (
          bif (!(((((x125.len : Nat) : Int) : Int) == 0) == (decide (((w64 (y2.2.2.1 + 1)) : Int) ≥ 2)))) then (
            .ret (.bool false))
          else (
            bif ((((x125.len : Nat) : Int) : Int) != 0) then (
              bif ((((x125.len : Nat) : Int) : Int) != (w64 (1 + x31))) then (
                .ret (.bool false))
              else (
                .again 1216 [(.bool y2.1), (.slice x125.a x125.len x125.cap), (.int .i64 (w64 (y2.2.2.1 + 1))), (.int .i64 (w64 (y2.2.2.2.1 + 1)))]))
            else (
              .again 1216 [(.bool y2.1), (.slice x125.a x125.len x125.cap), (.int .i64 (w64 (y2.2.2.1 + 1))), (.int .i64 (w64 (y2.2.2.2.1 + 1)))]))))
      else (
        .call f_epoch_Turn_Left [(.pointer x109)] (.one (.leaf .slice)) fun x125 =>
        .ldA x15 [(.int .i64), (.int .i64)] fun x127 =>
        .qcall f_epoch_Table_Global [(.agg #[(.int .i64 x127.1), (.int .i64 x127.2.1)])] (.one (.leaf (.int .i64))) fun x128 =>
        .call f_arena_Arena_Raw [(.pointer x38.1), (.int .i64 x128)] (.one (.leaf (.int .i64))) fun x129 =>
        bif ((x129 : Int) != y2.2.2.1) then (
          .ret (.bool false))
        else (
          bif (!(((((x125.len : Nat) : Int) : Int) == 0) == (decide ((y2.2.2.1 : Int) ≥ 2)))) then (
            .ret (.bool false))
          else (
            bif ((((x125.len : Nat) : Int) : Int) != 0) then (
              bif ((((x125.len : Nat) : Int) : Int) != (w64 (1 + x31))) then (
                .ret (.bool false))
              else (
                .again 1216 [(.bool y2.1), (.slice x125.a x125.len x125.cap), (.int .i64 y2.2.2.1), (.int .i64 (w64 (y2.2.2.2.1 + 1)))]))
            else (
              .again 1216 [(.bool y2.1), (.slice x125.a x125.len x125.cap), (.int .i64 y2.2.2.1), (.int .i64 (w64 (y2.2.2.2.1 + 1)))]))))))

@[reducible] def t_magpielaw13_EpochTurns_L2_sh : List Sh1 := [(.leaf .bool), (.leaf .slice), (.leaf (.int .i64)), (.leaf (.int .i64))]
noncomputable def t_magpielaw13_EpochTurns_L2 (x26 : Int) (x29 : Int) (x31 : Int) (x34 : Int) (x38 : HL Sh1.T [(.leaf .ptr), (.agg [(.int .i64), (.int .i64), (.int .i64), (.int .i64), (.int .i64)]), (.agg [(.int .i64), (.int .i64)])]) (x14 : Addr) (x15 : Addr) (y2 : HL Sh1.T t_magpielaw13_EpochTurns_L2_sh) : Tree :=
  bif (decide ((y2.2.2.2.1 : Int) < x29)) then (
    bif ((y2.2.2.2.1 : Int) == x34) then (
      .ldA x15 [(.int .i64), (.int .i64)] fun x82 =>
      .call f_epoch_NewPin [(.agg #[(.int .i64 x82.1), (.int .i64 x82.2.1)]), (.int .i64 (w64 ((w64 (1 + x26)) - 1)))] (.one (.leaf .ptr)) fun x85 =>
      .look (opS Try.prog (.binOp .eql ty_p_epoch_Pin (.tmp 0) (.const (.pointer none)) ty_p_epoch_Pin) ty_bool [(.pointer x85)]) (.one (.leaf .bool)) fun x87 =>
      bif x87 then (
        .ret (.bool false))
      else (
        .call f_magpielaw13_run [(.pointer x38.1), (.iface ty_p_epoch_Pin (.pointer x85))] (.one (.leaf .bool)) fun x92 =>
        bif (!x92) then (
          .ret (.bool false))
        else (
          .ldA x15 [(.int .i64), (.int .i64)] fun x97 =>
          .qcall f_epoch_Table_Word [(.agg #[(.int .i64 x97.1), (.int .i64 x97.2.1)]), (.int .i64 (w64 ((w64 (1 + x26)) - 1)))] (.one (.leaf (.int .i64))) fun x100 =>
          .call f_arena_Arena_Raw [(.pointer x38.1), (.int .i64 x100)] (.one (.leaf (.int .i64))) fun x101 =>
          bif ((x101 : Int) != (w64 (y2.2.2.1 + 1))) then (
            .ret (.bool false))
          else (
            t_magpielaw13_EpochTurns_J9 x31 x34 x38 x14 x15 y2))))
    else (
      t_magpielaw13_EpochTurns_J9 x31 x34 x38 x14 x15 y2))
  else (
    .call f_arena_Arena_Fault [(.pointer x38.1)] (.one (.leaf .bool)) fun x152 =>
    bif (!x152) then (
      .call f_magpielaw13_awake [] (.one (.leaf .bool)) fun x155 =>
      .ret (.bool x155))
    else (
      .ret (.bool false)))

@[reducible] def t_magpielaw13_EpochTurns_L1_sh : List Sh1 := [(.leaf .bool), (.leaf .slice), (.leaf (.int .i64))]
noncomputable def t_magpielaw13_EpochTurns_L1 (x26 : Int) (x29 : Int) (x31 : Int) (x34 : Int) (x38 : HL Sh1.T [(.leaf .ptr), (.agg [(.int .i64), (.int .i64), (.int .i64), (.int .i64), (.int .i64)]), (.agg [(.int .i64), (.int .i64)])]) (x14 : Addr) (x15 : Addr) (y1 : HL Sh1.T t_magpielaw13_EpochTurns_L1_sh) : Tree :=
  bif (decide ((y1.2.2.1 : Int) < (w64 (1 + x31)))) then (
    .ldA x14 [(.int .i64), (.int .i64), (.int .i64), (.int .i64), (.int .i64)] fun x49 =>
    .call f_slab_NewAlloc [(.agg #[(.int .i64 x49.1), (.int .i64 x49.2.1), (.int .i64 x49.2.2.1), (.int .i64 x49.2.2.2.1), (.int .i64 x49.2.2.2.2.1)]), (.int .i64 0), (.int .i64 0)] (.one (.leaf .ptr)) fun x50 =>
    .look (opS Try.prog (.binOp .eql ty_p_slab_Alloc (.tmp 0) (.const (.pointer none)) ty_p_slab_Alloc) ty_bool [(.pointer x50)]) (.one (.leaf .bool)) fun x52 =>
    bif x52 then (
      .ret (.bool false))
    else (
      .call f_magpielaw13_run [(.pointer x38.1), (.iface ty_p_slab_Alloc (.pointer x50))] (.one (.leaf .bool)) fun x57 =>
      bif (!x57) then (
        .ret (.bool false))
      else (
        .call f_slab_Alloc_Handle [(.pointer x50)] (.tup [(.leaf (.int .i64)), (.leaf .bool)]) fun x62 =>
        .call f_arena_Arena_Retire [(.pointer x38.1), (.int .i64 x62.1)] (.one (.leaf .bool)) fun x67 =>
        bif (!x67) then (
          .ret (.bool false))
        else (
          .newS (.cells #[(.int .i64 x62.1), (.int .i64 0)] ty_epoch_Limbo) 1 fun x72 =>
          .act (opS Try.prog (.call { callee := .builtin .append, args := #[(.tmp 0), (.tmp 1)], argTypes := #[ty_s_epoch_Limbo, ty_s_epoch_Limbo] }) ty_s_epoch_Limbo [(.slice y1.2.1.a y1.2.1.len y1.2.1.cap), (.slice x72.a x72.len x72.cap)]) (.one (.leaf .slice)) fun x73 =>
          .again 512 [(.bool y1.1), (.slice x73.a x73.len x73.cap), (.int .i64 (w64 (y1.2.2.1 + 1)))]))))
  else (
    .loop 1216 t_magpielaw13_EpochTurns_L2_sh [(.bool y1.1), (.slice y1.2.1.a y1.2.1.len y1.2.1.cap), (.int .i64 0), (.int .i64 0)] (t_magpielaw13_EpochTurns_L2 x26 x29 x31 x34 x38 x14 x15))
noncomputable def t_magpielaw13_EpochTurns (p0 : Int) (p1 : Int) (p2 : Int) (p3 : Int) : Tree :=
  .qcall f_magpielaw00_Place [(.int .i64 p0), (.int .i64 8)] (.one (.leaf (.int .i64))) fun x26 =>
  .qcall f_magpielaw00_Place [(.int .i64 p1), (.int .i64 12)] (.one (.leaf (.int .i64))) fun x29 =>
  .qcall f_magpielaw00_Place [(.int .i64 p3), (.int .i64 6)] (.one (.leaf (.int .i64))) fun x31 =>
  .qcall f_magpielaw00_Place [(.int .i64 p2), (.int .i64 14)] (.one (.leaf (.int .i64))) fun x34 =>
  .call f_magpielaw13_make1 [(.int .i64 (w64 (1 + x26))), (.int .i64 (w64 (1 + x31)))] (.tup [(.leaf .ptr), (.agg [(.int .i64), (.int .i64), (.int .i64), (.int .i64), (.int .i64)]), (.agg [(.int .i64), (.int .i64)])]) fun x38 =>
  .newP (.cells #[(.int .i64 0), (.int .i64 0), (.int .i64 0), (.int .i64 0), (.int .i64 0)] ty_free_Place) fun x14 =>
  .newP (.cells #[(.int .i64 0), (.int .i64 0)] ty_epoch_Table) fun x15 =>
  .stA x14 [(.int .i64 x38.2.1.1), (.int .i64 x38.2.1.2.1), (.int .i64 x38.2.1.2.2.1), (.int .i64 x38.2.1.2.2.2.1), (.int .i64 x38.2.1.2.2.2.2.1)] <|
  .stA x15 [(.int .i64 x38.2.2.1.1), (.int .i64 x38.2.2.1.2.1)] <|
  .look (opS Try.prog (.binOp .eql ty_p_arena_Arena (.tmp 0) (.const (.pointer none)) ty_p_arena_Arena) ty_bool [(.pointer x38.1)]) (.one (.leaf .bool)) fun x43 =>
  bif x43 then (
    .ret (.bool false))
  else (
    .loop 512 t_magpielaw13_EpochTurns_L1_sh [(.bool false), (.slice none 0 0), (.int .i64 0)] (t_magpielaw13_EpochTurns_L1 x26 x29 x31 x34 x38 x14 x15))
theorem t_magpielaw13_EpochTurns_eq (p0 : Int) (p1 : Int) (p2 : Int) (p3 : Int) : funcTree Try.prog { quiet := [16, 22, 23, 34, 35, 48, 49, 53, 57, 58, 59, 62, 105], quietTmp := true, fncs := [], ifcs := [] } Try.f14 [(.int .i64 p0), (.int .i64 p1), (.int .i64 p2), (.int .i64 p3)] = t_magpielaw13_EpochTurns p0 p1 p2 p3 := by kernel_rfl
theorem t_magpielaw13_EpochTurns_spec {p0 : Int} {p1 : Int} {p2 : Int} {p3 : Int} {H : Heap} {R : Value → Heap → Prop} (h : ∀ L, wp Try.prog (t_magpielaw13_EpochTurns p0 p1 p2 p3) L H R) : SpecF Try.prog f_magpielaw13_EpochTurns #[(.int .i64 p0), (.int .i64 p1), (.int .i64 p2), (.int .i64 p3)] H R :=
  spec_of_tree (cfg := { quiet := [16, 22, 23, 34, 35, 48, 49, 53, 57, 58, 59, 62, 105], quietTmp := true, fncs := [], ifcs := [] }) Try.func14 fun L => (t_magpielaw13_EpochTurns_eq p0 p1 p2 p3).symm ▸ h L

/- magpie/magpielaw13.EpochKeeps -/
noncomputable def t_magpielaw13_EpochKeeps_J1 (y1 : HL Sh1.T [(.leaf .bool), (.leaf .ptr), (.leaf .ptr), (.leaf .slice), (.leaf (.int .i64))]) (x208 : Bool) : Tree :=
  bif x208 then (
    .ret (.bool false))
  else (
    .again 960 [(.bool y1.1), (.pointer y1.2.1), (.pointer y1.2.2.1), (.slice y1.2.2.2.1.a y1.2.2.2.1.len y1.2.2.2.1.cap), (.int .i64 (w64 (y1.2.2.2.2.1 + 1)))])

noncomputable def t_magpielaw13_EpochKeeps_J4 (y1 : HL Sh1.T [(.leaf .bool), (.leaf .ptr), (.leaf .ptr), (.leaf .slice), (.leaf (.int .i64))]) (x135 : Sl) (x146 : Option Addr) (x208 : Bool) : Tree :=
  bif x208 then (
    .ret (.bool false))
  else (
    .again 960 [(.bool y1.1), (.pointer none), (.pointer x146), (.slice x135.a x135.len x135.cap), (.int .i64 (w64 (y1.2.2.2.2.1 + 1)))])

noncomputable def t_magpielaw13_EpochKeeps_J8 (y1 : HL Sh1.T [(.leaf .bool), (.leaf .ptr), (.leaf .ptr), (.leaf .slice), (.leaf (.int .i64))]) (x146 : Option Addr) (x208 : Bool) : Tree :=
  bif x208 then (
    .ret (.bool false))
  else (
    .again 960 [(.bool y1.1), (.pointer none), (.pointer x146), (.slice y1.2.2.2.1.a y1.2.2.2.1.len y1.2.2.2.1.cap), (.int .i64 (w64 (y1.2.2.2.2.1 + 1)))])

noncomputable def t_magpielaw13_EpochKeeps_J9 (x6 : Addr) (x8 : Addr) (x42 : Option Addr) (y1 : HL Sh1.T [(.leaf .bool), (.leaf .ptr), (.leaf .ptr), (.leaf .slice), (.leaf (.int .i64))]) : Tree :=
  .ldA x8 [(.int .i64), (.int .i64)] fun x143 =>
  .ldA x6 [(.int .i64), (.int .i64), (.int .i64), (.int .i64), (.int .i64)] fun x144 =>
  .call f_epoch_NewTurn [(.agg #[(.int .i64 x143.1), (.int .i64 x143.2.1)]), (.agg #[(.int .i64 x144.1), (.int .i64 x144.2.1), (.int .i64 x144.2.2.1), (.int .i64 x144.2.2.2.1), (.int .i64 x144.2.2.2.2.1)]), (.int .i64 0), (.slice y1.2.2.2.1.a y1.2.2.2.1.len y1.2.2.2.1.cap)] (.one (.leaf .ptr)) fun x146 =>
  .call f_arena_Arena_Fault [(.pointer x42)] (.one (.leaf .bool)) fun x208 =>
  t_magpielaw13_EpochKeeps_J8 y1 x146 x208

noncomputable def t_magpielaw13_EpochKeeps_J11 (x6 : Addr) (x8 : Addr) (x42 : Option Addr) (y1 : HL Sh1.T [(.leaf .bool), (.leaf .ptr), (.leaf .ptr), (.leaf .slice), (.leaf (.int .i64))]) (x105 : HL Sh1.T [(.leaf (.int .i64)), (.leaf .bool)]) : Tree :=
  bif (!x105.2.1) then (
    .ldA x8 [(.int .i64), (.int .i64)] fun x143 =>
    .ldA x6 [(.int .i64), (.int .i64), (.int .i64), (.int .i64), (.int .i64)] fun x144 =>
    .call f_epoch_NewTurn [(.agg #[(.int .i64 x143.1), (.int .i64 x143.2.1)]), (.agg #[(.int .i64 x144.1), (.int .i64 x144.2.1), (.int .i64 x144.2.2.1), (.int .i64 x144.2.2.2.1), (.int .i64 x144.2.2.2.2.1)]), (.int .i64 0), (.slice y1.2.2.2.1.a y1.2.2.2.1.len y1.2.2.2.1.cap)] (.one (.leaf .ptr)) fun x146 =>
    .call f_arena_Arena_Fault [(.pointer x42)] (.one (.leaf .bool)) fun x208 =>
    t_magpielaw13_EpochKeeps_J8 y1 x146 x208)
  else (
    .call f_arena_Arena_Fault [(.pointer x42)] (.one (.leaf .bool)) fun x208 =>
    bif x208 then (
      .ret (.bool false))
    else (
      .again 960 [(.bool y1.1), (.pointer none), (.pointer y1.2.2.1), (.slice y1.2.2.2.1.a y1.2.2.2.1.len y1.2.2.2.1.cap), (.int .i64 (w64 (y1.2.2.2.2.1 + 1)))]))

noncomputable def t_magpielaw13_EpochKeeps_J17 (x42 : Option Addr) (x12 : Addr) (x14 : Addr) (y1 : HL Sh1.T [(.leaf .bool), (.leaf .ptr), (.leaf .ptr), (.leaf .slice), (.leaf (.int .i64))]) (x67 : Int) : Tree :=
  .look (opS Try.prog (.indexAddr ty_a7_p_epoch_Pin (.tmp 0) (.tmp 1)) ty_unit [(.pointer (some x14)), (.int .i64 x67)]) (.one (.leaf .addr)) fun x162 =>
  .ld x162 .ptr fun x163 =>
  .call f_epoch_Pin_Step [(.pointer x163), (.pointer x42)] (.one (.leaf .bool)) fun x165 =>
  bif x165 then (
    .look (opS Try.prog (.indexAddr ty_a7_p_epoch_Pin (.tmp 0) (.tmp 1)) ty_unit [(.pointer (some x14)), (.int .i64 x67)]) (.one (.leaf .addr)) fun x168 =>
    .st x168 (.pointer none) <|
    .look (opS Try.prog (.indexAddr ty_a7_int (.tmp 0) (.tmp 1)) ty_unit [(.pointer (some x12)), (.int .i64 x67)]) (.one (.leaf .addr)) fun x169 =>
    .st x169 (.int .i64 1) <|
    .call f_arena_Arena_Fault [(.pointer x42)] (.one (.leaf .bool)) fun x208 =>
    t_magpielaw13_EpochKeeps_J1 y1 x208)
  else (
    .call f_arena_Arena_Fault [(.pointer x42)] (.one (.leaf .bool)) fun x208 =>
    t_magpielaw13_EpochKeeps_J1 y1 x208)

noncomputable def t_magpielaw13_EpochKeeps_J20 (x42 : Option Addr) (x12 : Addr) (y1 : HL Sh1.T [(.leaf .bool), (.leaf .ptr), (.leaf .ptr), (.leaf .slice), (.leaf (.int .i64))]) (x67 : Int) : Tree :=
  .look (opS Try.prog (.indexAddr ty_a7_int (.tmp 0) (.tmp 1)) ty_unit [(.pointer (some x12)), (.int .i64 x67)]) (.one (.leaf .addr)) fun x203 =>
  .ld x203 (.int .i64) fun x204 =>
  .look (opS Try.prog (.indexAddr ty_a7_int (.tmp 0) (.tmp 1)) ty_unit [(.pointer (some x12)), (.int .i64 x67)]) (.one (.leaf .addr)) fun x206 =>
  .st x206 (.int .i64 (w64 (x204 + 1))) <|
  .call f_arena_Arena_Fault [(.pointer x42)] (.one (.leaf .bool)) fun x208 =>
  t_magpielaw13_EpochKeeps_J1 y1 x208

noncomputable def t_magpielaw13_EpochKeeps_J25 (x29 : HL Sh1.T [(.agg [(.int .i64), (.int .i64), (.int .i64), (.int .i64), (.int .i64)]), (.leaf (.int .i64))]) (x6 : Addr) (x35 : HL Sh1.T [(.agg [(.int .i64), (.int .i64)]), (.leaf (.int .i64))]) (x8 : Addr) (x42 : Option Addr) (x12 : Addr) (x13 : Addr) (x14 : Addr) (y1 : HL Sh1.T [(.leaf .bool), (.leaf .ptr), (.leaf .ptr), (.leaf .slice), (.leaf (.int .i64))]) (x67 : Int) : Tree :=
  bif ((x67 : Int) == 0) then (
    .call f_slab_Alloc_Step [(.pointer y1.2.1), (.pointer x42)] (.one (.leaf .bool)) fun x101 =>
    bif (!x101) then (
      .again 960 [(.bool y1.1), (.pointer y1.2.1), (.pointer y1.2.2.1), (.slice y1.2.2.2.1.a y1.2.2.2.1.len y1.2.2.2.1.cap), (.int .i64 (w64 (y1.2.2.2.2.1 + 1)))])
    else (
      .call f_slab_Alloc_Handle [(.pointer y1.2.1)] (.tup [(.leaf (.int .i64)), (.leaf .bool)]) fun x105 =>
      bif x105.2.1 then (
        .call f_arena_Arena_Store [(.pointer x42), (.int .i64 x105.1), (.int .i64 0), (.int .i64 x105.1)] .unit fun _ =>
        .call f_arena_Arena_Raw [(.pointer x42), (.int .i64 (w64 (x29.2.1 + x35.2.1)))] (.one (.leaf (.int .i64))) fun x115 =>
        .call f_arena_Arena_SetRaw [(.pointer x42), (.int .i64 (w64 (x29.2.1 + x35.2.1))), (.int .i64 x105.1)] .unit fun _ =>
        bif ((x115 : Int) != 0) then (
          .call f_arena_Arena_Retire [(.pointer x42), (.int .i64 x115)] (.one (.leaf .bool)) fun x125 =>
          bif x125 then (
            .ldA x8 [(.int .i64), (.int .i64)] fun x130 =>
            .qcall f_epoch_Table_Global [(.agg #[(.int .i64 x130.1), (.int .i64 x130.2.1)])] (.one (.leaf (.int .i64))) fun x131 =>
            .call f_arena_Arena_Raw [(.pointer x42), (.int .i64 x131)] (.one (.leaf (.int .i64))) fun x132 =>
            .newS (.cells #[(.int .i64 x115), (.int .i64 x132)] ty_epoch_Limbo) 1 fun x134 =>
            .act (opS Try.prog (.call { callee := .builtin .append, args := #[(.tmp 0), (.tmp 1)], argTypes := #[ty_s_epoch_Limbo, ty_s_epoch_Limbo] }) ty_s_epoch_Limbo [(.slice y1.2.2.2.1.a y1.2.2.2.1.len y1.2.2.2.1.cap), (.slice x134.a x134.len x134.cap)]) (.one (.leaf .slice)) fun x135 =>
            bif (decide ((((x135.len : Nat) : Int) : Int) > 3)) then (
              .ldA x8 [(.int .i64), (.int .i64)] fun x143 =>
              .ldA x6 [(.int .i64), (.int .i64), (.int .i64), (.int .i64), (.int .i64)] fun x144 =>
              .call f_epoch_NewTurn [(.agg #[(.int .i64 x143.1), (.int .i64 x143.2.1)]), (.agg #[(.int .i64 x144.1), (.int .i64 x144.2.1), (.int .i64 x144.2.2.1), (.int .i64 x144.2.2.2.1), (.int .i64 x144.2.2.2.2.1)]), (.int .i64 0), (.slice x135.a x135.len x135.cap)] (.one (.leaf .ptr)) fun x146 =>
              .call f_arena_Arena_Fault [(.pointer x42)] (.one (.leaf .bool)) fun x208 =>
              t_magpielaw13_EpochKeeps_J4 y1 x135 x146 x208)
            else (
              bif (!x105.2.1) then (
                .ldA x8 [(.int .i64), (.int .i64)] fun x143 =>
                .ldA x6 [(.int .i64), (.int .i64), (.int .i64), (.int .i64), (.int .i64)] fun x144 =>
                .call f_epoch_NewTurn [(.agg #[(.int .i64 x143.1), (.int .i64 x143.2.1)]), (.agg #[(.int .i64 x144.1), (.int .i64 x144.2.1), (.int .i64 x144.2.2.1), (.int .i64 x144.2.2.2.1), (.int .i64 x144.2.2.2.2.1)]), (.int .i64 0), (.slice x135.a x135.len x135.cap)] (.one (.leaf .ptr)) fun x146 =>
                .call f_arena_Arena_Fault [(.pointer x42)] (.one (.leaf .bool)) fun x208 =>
                t_magpielaw13_EpochKeeps_J4 y1 x135 x146 x208)
              else (
                .call f_arena_Arena_Fault [(.pointer x42)] (.one (.leaf .bool)) fun x208 =>
                bif x208 then (
                  .ret (.bool false))
                else (
                  .again 960 [(.bool y1.1), (.pointer none), (.pointer y1.2.2.1), (.slice x135.a x135.len x135.cap), (.int .i64 (w64 (y1.2.2.2.2.1 + 1)))]))))
          else (
            bif (decide ((((y1.2.2.2.1.len : Nat) : Int) : Int) > 3)) then (
              t_magpielaw13_EpochKeeps_J9 x6 x8 x42 y1)
            else (
              t_magpielaw13_EpochKeeps_J11 x6 x8 x42 y1 x105)))
        else (
          bif (decide ((((y1.2.2.2.1.len : Nat) : Int) : Int) > 3)) then (
            t_magpielaw13_EpochKeeps_J9 x6 x8 x42 y1)
          else (
            t_magpielaw13_EpochKeeps_J11 x6 x8 x42 y1 x105)))
      else (
        bif (decide ((((y1.2.2.2.1.len : Nat) : Int) : Int) > 3)) then (
          t_magpielaw13_EpochKeeps_J9 x6 x8 x42 y1)
        else (
          t_magpielaw13_EpochKeeps_J11 x6 x8 x42 y1 x105))))
  else (
    .look (opS Try.prog (.indexAddr ty_a7_int (.tmp 0) (.tmp 1)) ty_unit [(.pointer (some x12)), (.int .i64 x67)]) (.one (.leaf .addr)) fun x149 =>
    .ld x149 (.int .i64) fun x150 =>
    bif ((x150 : Int) == 0) then (
      .look (opS Try.prog (.indexAddr ty_a7_p_epoch_Pin (.tmp 0) (.tmp 1)) ty_unit [(.pointer (some x14)), (.int .i64 x67)]) (.one (.leaf .addr)) fun x153 =>
      .ld x153 .ptr fun x154 =>
      .look (opS Try.prog (.binOp .eql ty_p_epoch_Pin (.tmp 0) (.const (.pointer none)) ty_p_epoch_Pin) ty_bool [(.pointer x154)]) (.one (.leaf .bool)) fun x155 =>
      bif x155 then (
        .ldA x8 [(.int .i64), (.int .i64)] fun x157 =>
        .call f_epoch_NewPin [(.agg #[(.int .i64 x157.1), (.int .i64 x157.2.1)]), (.int .i64 x67)] (.one (.leaf .ptr)) fun x159 =>
        .look (opS Try.prog (.indexAddr ty_a7_p_epoch_Pin (.tmp 0) (.tmp 1)) ty_unit [(.pointer (some x14)), (.int .i64 x67)]) (.one (.leaf .addr)) fun x160 =>
        .st x160 (.pointer x159) <|
        t_magpielaw13_EpochKeeps_J17 x42 x12 x14 y1 x67)
      else (
        t_magpielaw13_EpochKeeps_J17 x42 x12 x14 y1 x67))
    else (
      .look (opS Try.prog (.indexAddr ty_a7_int (.tmp 0) (.tmp 1)) ty_unit [(.pointer (some x12)), (.int .i64 x67)]) (.one (.leaf .addr)) fun x172 =>
      .ld x172 (.int .i64) fun x173 =>
      bif ((x173 : Int) == 1) then (
        .call f_arena_Arena_Raw [(.pointer x42), (.int .i64 (w64 (x29.2.1 + x35.2.1)))] (.one (.leaf (.int .i64))) fun x178 =>
        .look (opS Try.prog (.indexAddr ty_a7_int (.tmp 0) (.tmp 1)) ty_unit [(.pointer (some x13)), (.int .i64 x67)]) (.one (.leaf .addr)) fun x179 =>
        .st x179 (.int .i64 x178) <|
        .look (opS Try.prog (.indexAddr ty_a7_int (.tmp 0) (.tmp 1)) ty_unit [(.pointer (some x12)), (.int .i64 x67)]) (.one (.leaf .addr)) fun x181 =>
        .st x181 (.int .i64 2) <|
        .call f_arena_Arena_Fault [(.pointer x42)] (.one (.leaf .bool)) fun x208 =>
        t_magpielaw13_EpochKeeps_J1 y1 x208)
      else (
        .look (opS Try.prog (.indexAddr ty_a7_int (.tmp 0) (.tmp 1)) ty_unit [(.pointer (some x12)), (.int .i64 x67)]) (.one (.leaf .addr)) fun x184 =>
        .ld x184 (.int .i64) fun x185 =>
        bif (decide ((x185 : Int) < 6)) then (
          .look (opS Try.prog (.indexAddr ty_a7_int (.tmp 0) (.tmp 1)) ty_unit [(.pointer (some x13)), (.int .i64 x67)]) (.one (.leaf .addr)) fun x188 =>
          .ld x188 (.int .i64) fun x189 =>
          bif ((x189 : Int) != 0) then (
            .look (opS Try.prog (.indexAddr ty_a7_int (.tmp 0) (.tmp 1)) ty_unit [(.pointer (some x13)), (.int .i64 x67)]) (.one (.leaf .addr)) fun x194 =>
            .ld x194 (.int .i64) fun x195 =>
            .look (opS Try.prog (.indexAddr ty_a7_int (.tmp 0) (.tmp 1)) ty_unit [(.pointer (some x13)), (.int .i64 x67)]) (.one (.leaf .addr)) fun x198 =>
            .ld x198 (.int .i64) fun x199 =>
            .call f_arena_Arena_Load [(.pointer x42), (.int .i64 x195), (.int .i64 0)] (.one (.leaf (.int .i64))) fun x196 =>
            .check (ldS x198) (.int .i64 x199) <|
            .check (opS Try.prog (.indexAddr ty_a7_int (.tmp 0) (.tmp 1)) ty_unit [(.pointer (some x13)), (.int .i64 x67)]) (.pointer (some x198)) <|
            bif ((x196 : Int) != x199) then (
              .ret (.bool false))
            else (
              t_magpielaw13_EpochKeeps_J20 x42 x12 y1 x67))
          else (
            t_magpielaw13_EpochKeeps_J20 x42 x12 y1 x67))
        else (
          .ldA x8 [(.int .i64), (.int .i64)] fun x69 =>
          .qcall f_epoch_Table_Word [(.agg #[(.int .i64 x69.1), (.int .i64 x69.2.1)]), (.int .i64 x67)] (.one (.leaf (.int .i64))) fun x71 =>
          .call f_arena_Arena_SetRaw [(.pointer x42), (.int .i64 x71), (.int .i64 0)] .unit fun _ =>
          .look (opS Try.prog (.indexAddr ty_a7_int (.tmp 0) (.tmp 1)) ty_unit [(.pointer (some x12)), (.int .i64 x67)]) (.one (.leaf .addr)) fun x74 =>
          .st x74 (.int .i64 0) <|
          .call f_arena_Arena_Fault [(.pointer x42)] (.one (.leaf .bool)) fun x208 =>
          t_magpielaw13_EpochKeeps_J1 y1 x208))))

noncomputable def t_magpielaw13_EpochKeeps_J26 (x29 : HL Sh1.T [(.agg [(.int .i64), (.int .i64), (.int .i64), (.int .i64), (.int .i64)]), (.leaf (.int .i64))]) (x6 : Addr) (x35 : HL Sh1.T [(.agg [(.int .i64), (.int .i64)]), (.leaf (.int .i64))]) (x8 : Addr) (x42 : Option Addr) (x12 : Addr) (x13 : Addr) (x14 : Addr) (y1 : HL Sh1.T [(.leaf .bool), (.leaf .ptr), (.leaf .ptr), (.leaf .slice), (.leaf (.int .i64))]) (x67 : Int) (x92 : Bool) : Tree :=
  bif x92 then (
    .ldA x6 [(.int .i64), (.int .i64), (.int .i64), (.int .i64), (.int .i64)] fun x94 =>
    .call f_slab_NewAlloc [(.agg #[(.int .i64 x94.1), (.int .i64 x94.2.1), (.int .i64 x94.2.2.1), (.int .i64 x94.2.2.2.1), (.int .i64 x94.2.2.2.2.1)]), (.int .i64 0), (.int .i64 0)] (.one (.leaf .ptr)) fun x95 =>
    .call f_arena_Arena_Fault [(.pointer x42)] (.one (.leaf .bool)) fun x208 =>
    bif x208 then (
      .ret (.bool false))
    else (
      .again 960 [(.bool y1.1), (.pointer x95), (.pointer y1.2.2.1), (.slice y1.2.2.2.1.a y1.2.2.2.1.len y1.2.2.2.1.cap), (.int .i64 (w64 (y1.2.2.2.2.1 + 1)))]))
  else (
    t_magpielaw13_EpochKeeps_J25 x29 x6 x35 x8 x42 x12 x13 x14 y1 x67)

noncomputable def t_magpielaw13_EpochKeeps_J31 (y1 : HL Sh1.T [(.leaf .bool), (.leaf .ptr), (.leaf .ptr), (.leaf .slice), (.leaf (.int .i64))]) : Tree :=
  bif (decide ((((y1.2.2.2.1.len : Nat) : Int) : Int) ≤ 50)) then (
    .call f_magpielaw13_awake [] (.one (.leaf .bool)) fun x213 =>
    .ret (.bool x213))
  else (
    .ret (.bool false))

@[reducible] def t_magpielaw13_EpochKeeps_L1_sh : List Sh1 := [(.leaf .bool), (.leaf .ptr), (.leaf .ptr), (.leaf .slice), (.leaf (.int .i64))]
noncomputable def t_magpielaw13_EpochKeeps_L1 (p1 : Sl) (x25 : Int) (x29 : HL Sh1.T [(.agg [(.int .i64), (.int .i64), (.int .i64), (.int .i64), (.int .i64)]), (.leaf (.int .i64))]) (x6 : Addr) (x35 : HL Sh1.T [(.agg [(.int .i64), (.int .i64)]), (.leaf (.int .i64))]) (x8 : Addr) (x42 : Option Addr) (x12 : Addr) (x13 : Addr) (x14 : Addr) (y1 : HL Sh1.T t_magpielaw13_EpochKeeps_L1_sh) : Tree :=
  bif (decide ((y1.2.2.2.2.1 : Int) < ((p1.len : Nat) : Int))) then (
    bif (decide ((y1.2.2.2.2.1 : Int) < 600)) then (
      .look (opS Try.prog (.indexAddr ty_s_int (.tmp 0) (.tmp 1)) ty_unit [(.slice p1.a p1.len p1.cap), (.int .i64 y1.2.2.2.2.1)]) (.one (.leaf .addr)) fun x62 =>
      .ld x62 (.int .i64) fun x63 =>
      .qcall f_magpielaw00_Place [(.int .i64 x63), (.int .i64 1048576)] (.one (.leaf (.int .i64))) fun x64 =>
      .look (opS Try.prog (.binOp .rem ty_int (.tmp 0) (.tmp 1) ty_int) ty_int [(.int .i64 x64), (.int .i64 (w64 (2 + x25)))]) (.one (.leaf (.int .i64))) fun x67 =>
      bif ((x67 : Int) == 0) then (
        .look (opS Try.prog (.binOp .neq ty_p_epoch_Turn (.tmp 0) (.const (.pointer none)) ty_p_epoch_Turn) ty_bool [(.pointer y1.2.2.1)]) (.one (.leaf .bool)) fun x80 =>
        bif x80 then (
          .call f_epoch_Turn_Step [(.pointer y1.2.2.1), (.pointer x42)] (.one (.leaf .bool)) fun x84 =>
          bif x84 then (
            .call f_epoch_Turn_Left [(.pointer y1.2.2.1)] (.one (.leaf .slice)) fun x86 =>
            .call f_arena_Arena_Fault [(.pointer x42)] (.one (.leaf .bool)) fun x208 =>
            bif x208 then (
              .ret (.bool false))
            else (
              .again 960 [(.bool y1.1), (.pointer y1.2.1), (.pointer none), (.slice x86.a x86.len x86.cap), (.int .i64 (w64 (y1.2.2.2.2.1 + 1)))]))
          else (
            .call f_arena_Arena_Fault [(.pointer x42)] (.one (.leaf .bool)) fun x208 =>
            t_magpielaw13_EpochKeeps_J1 y1 x208))
        else (
          bif ((x67 : Int) == 0) then (
            .look (opS Try.prog (.binOp .eql ty_p_slab_Alloc (.tmp 0) (.const (.pointer none)) ty_p_slab_Alloc) ty_bool [(.pointer y1.2.1)]) (.one (.leaf .bool)) fun x92 =>
            t_magpielaw13_EpochKeeps_J26 x29 x6 x35 x8 x42 x12 x13 x14 y1 x67 x92)
          else (
            t_magpielaw13_EpochKeeps_J25 x29 x6 x35 x8 x42 x12 x13 x14 y1 x67)))
      else (
        bif ((x67 : Int) == 0) then (
          .look (opS Try.prog (.binOp .eql ty_p_slab_Alloc (.tmp 0) (.const (.pointer none)) ty_p_slab_Alloc) ty_bool [(.pointer y1.2.1)]) (.one (.leaf .bool)) fun x92 =>
          t_magpielaw13_EpochKeeps_J26 x29 x6 x35 x8 x42 x12 x13 x14 y1 x67 x92)
        else (
          t_magpielaw13_EpochKeeps_J25 x29 x6 x35 x8 x42 x12 x13 x14 y1 x67)))
    else (
      t_magpielaw13_EpochKeeps_J31 y1))
  else (
    t_magpielaw13_EpochKeeps_J31 y1)
noncomputable def t_magpielaw13_EpochKeeps (p0 : Int) (p1 : Sl) : Tree :=
  .qcall f_magpielaw00_Place [(.int .i64 p0), (.int .i64 5)] (.one (.leaf (.int .i64))) fun x25 =>
  .call f_free_Raw [(.int .i64 (w64 (2 + x25))), (.int .i64 400)] (.tup [(.agg [(.int .i64), (.int .i64), (.int .i64), (.int .i64), (.int .i64)]), (.leaf (.int .i64))]) fun x29 =>
  .newP (.cells #[(.int .i64 0), (.int .i64 0), (.int .i64 0), (.int .i64 0), (.int .i64 0)] ty_free_Place) fun x6 =>
  .stA x6 [(.int .i64 x29.1.1), (.int .i64 x29.1.2.1), (.int .i64 x29.1.2.2.1), (.int .i64 x29.1.2.2.2.1), (.int .i64 x29.1.2.2.2.2.1)] <|
  .qcall f_epoch_Raw [(.int .i64 (w64 (2 + x25))), (.int .i64 x29.2.1)] (.tup [(.agg [(.int .i64), (.int .i64)]), (.leaf (.int .i64))]) fun x35 =>
  .newP (.cells #[(.int .i64 0), (.int .i64 0)] ty_epoch_Table) fun x8 =>
  .stA x8 [(.int .i64 x35.1.1), (.int .i64 x35.1.2.1)] <|
  .call f_arena_New [(.int .i64 (w64 ((w64 (x29.2.1 + x35.2.1)) + 1))), (.int .i64 400), (.bool false)] (.one (.leaf .ptr)) fun x42 =>
  .look (opS Try.prog (.binOp .eql ty_p_arena_Arena (.tmp 0) (.const (.pointer none)) ty_p_arena_Arena) ty_bool [(.pointer x42)]) (.one (.leaf .bool)) fun x47 =>
  bif x47 then (
    .ret (.bool false))
  else (
    .newP (.cells #[(.int .i64 0), (.int .i64 0), (.int .i64 0), (.int .i64 0), (.int .i64 0), (.int .i64 0), (.int .i64 0)] ty_a7_int) fun x12 =>
    .stA x12 [(.int .i64 0), (.int .i64 0), (.int .i64 0), (.int .i64 0), (.int .i64 0), (.int .i64 0), (.int .i64 0)] <|
    .newP (.cells #[(.int .i64 0), (.int .i64 0), (.int .i64 0), (.int .i64 0), (.int .i64 0), (.int .i64 0), (.int .i64 0)] ty_a7_int) fun x13 =>
    .stA x13 [(.int .i64 0), (.int .i64 0), (.int .i64 0), (.int .i64 0), (.int .i64 0), (.int .i64 0), (.int .i64 0)] <|
    .newP (.cells #[(.pointer none), (.pointer none), (.pointer none), (.pointer none), (.pointer none), (.pointer none), (.pointer none)] ty_a7_p_epoch_Pin) fun x14 =>
    .loop 960 t_magpielaw13_EpochKeeps_L1_sh [(.bool false), (.pointer none), (.pointer none), (.slice none 0 0), (.int .i64 0)] (t_magpielaw13_EpochKeeps_L1 p1 x25 x29 x6 x35 x8 x42 x12 x13 x14))
theorem t_magpielaw13_EpochKeeps_eq (p0 : Int) (p1 : Sl) : funcTree Try.prog { quiet := [16, 22, 23, 34, 35, 48, 49, 53, 57, 58, 59, 62, 105], quietTmp := true, fncs := [], ifcs := [] } Try.f15 [(.int .i64 p0), (.slice p1.a p1.len p1.cap)] = t_magpielaw13_EpochKeeps p0 p1 := by kernel_rfl
theorem t_magpielaw13_EpochKeeps_spec {p0 : Int} {p1 : Sl} {H : Heap} {R : Value → Heap → Prop} (h : ∀ L, wp Try.prog (t_magpielaw13_EpochKeeps p0 p1) L H R) : SpecF Try.prog f_magpielaw13_EpochKeeps #[(.int .i64 p0), (.slice p1.a p1.len p1.cap)] H R :=
  spec_of_tree (cfg := { quiet := [16, 22, 23, 34, 35, 48, 49, 53, 57, 58, 59, 62, 105], quietTmp := true, fncs := [], ifcs := [] }) Try.func15 fun L => (t_magpielaw13_EpochKeeps_eq p0 p1).symm ▸ h L

end Go.Proofs.Ytfphgiipekkgdaa

set_option linter.unusedVariables false
set_option linter.unusedSimpArgs false
set_option maxRecDepth 20000
namespace Go.Proofs.Ytfphgiipekkgdaa
open Go Go.Fw

abbrev eB (x7 x8 : Nat) (w s : Int) (tl : Bl) : Bl := (x8, oc ty_epoch_Table (tbC w (4 * w + 2 * s + 1))) :: (x7, oc ty_free_Place (plCells (plOf w (8 * s)))) :: tl

theorem EpochSteps_det (p0 p1 : Int) (H : Heap) : Det Try.prog f_magpielaw13_EpochSteps [.int .i64 p0, .int .i64 p1] H (.bool true) H := by
  refine t_magpielaw13_EpochSteps_spec fun L => ?_
  unfold t_magpielaw13_EpochSteps
  refine w_Place (by omega) (by omega) ?_
  have a0 := Int.emod_nonneg p0 (b := 8) (by omega)
  have a1 := Int.emod_lt_of_pos p0 (b := 8) (by omega)
  generalize p0 % 8 = a at *
  have e1 : w64 (1 + a) = 1 + a := w64_in (by omega) (by omega)
  rw [e1]
  obtain ⟨w, ew⟩ : ∃ w, w = 1 + a := ⟨_, rfl⟩
  rw [← ew]
  refine wp_call_of (emake_spec w 1 (by omega) (by decide) H) ?_
  rintro v K ⟨A, rfl, rfl, hI, ok, E, r0, u0, nl, nr⟩
  refine ⟨(aI A.ids, (w, 0, 4 * w, 4 * w + (8 * 1 + 7) / 8, 4 * w + 2 * ((8 * 1 + 7) / 8), ()), (w, 4 * w + 2 * 1 + 1, ()), ()), rfl, ?_⟩
  have hA := E.aw
  have ok : Ok A.ids H (keys ([] : Bl)) := ok
  refine w_newP hA ok fun x7 ok => ?_
  refine w_newP hA ok fun x8 ok => ?_
  refine w_stA 1 hA ok rfl rfl rfl rfl ?_
  refine w_stA 0 hA ok rfl rfl rfl rfl ?_
  refine w_ldA 0 hA ok rfl rfl rfl ?_
  refine w_ldA 1 hA ok rfl rfl rfl ?_
  have ok : Ok A.ids H (keys (eB x7 x8 w 1 [])) := ok
  show wp Try.prog _ _ (own A (eB x7 x8 w 1 []) H) _
  refine w_NewTurn (tw := w) (ta := 4 * w + 2 * 1 + 1) (work := 0) (p := plOf w (8 * 1)) (xs := []) (s := sl0) hA ok (.inl ⟨rfl, rfl⟩) (by show 0 ≤ 1000; decide) fun j okj rpj => ?_
  refine look_val (x := false) (np_some _) (wp_false rfl ?_)
  refine look_val (x := false) (eqT _) (wp_false rfl ?_)
  refine w_Uses hA ?_
  obtain ⟨A', S', m', n, run, hn, ml, mp, E', us, g, rw', st, nR⟩ := E.free (xs := []) (e := 0) (by omega) (r0 _) (by decide) (by show 0 ≤ 50; decide) (by simp) (by rw [nr]; decide) (fun x hx => by cases hx) fun i _ _ => .inl (r0 _)
  have us : A'.uses = A.uses + 2 + w := by rw [us]; show A.uses + 2 + w + 3 * 0 = _; omega
  refine w_runR13 mTn_ok mTn_inv run hn (j := j) hA okj rpj fun j' ha hA2 ok2 rp2 => ?_
  refine wp_false rfl ?_
  refine w_Uses hA2 ?_
  refine wp_false (ibnf (by rw [us, w64_in (x := A.uses + 2) (by omega) (by omega), w64_in (by omega) (by omega)])) ?_
  have E2 := E' hA2
  obtain ⟨p2, ok3⟩ := own_perm (A := A') (l' := eB x7 x8 w 1 (mTn.bl m' j')) ok2 (perm_by fun c d c0 cd ca => by simp only [cd, ca, c0]; omega)
  have p2' : own A' (mTn.bl m' j' ++ eB x7 x8 w 1 []) H = _ := p2
  rw [p2']
  refine w_ldA 0 hA2 ok3 rfl rfl rfl ?_
  refine wq_Global (tw := w) (ta := 4 * w + 2 * 1 + 1) ?_
  refine w_Raw hA2 fun hA3 => ?_
  have t1 := E2.touch (i := 4 * w + 2 * 1 + 1) (by omega) (by omega)
  rw [t1] at hA3 ⊢
  refine wp_false (ibnf g) ?_
  refine w_Place (by omega) (by omega) ?_
  have b0 := Int.emod_nonneg p1 (b := w) (by omega)
  have b1 := Int.emod_lt_of_pos p1 (b := w) (by omega)
  generalize p1 % w = k at *
  refine w_ldA 0 hA3 ok3 rfl rfl rfl ?_
  refine wq_EWord (tw := w) (ta := 4 * w + 2 * 1 + 1) ?_
  rw [ewd_eq ⟨by omega, by omega, by omega, by omega⟩]
  refine w_SetRaw hA3 fun hA4 => ?_
  have E3 := E2.later (n := 1) (by decide)
  have u3 : (A'.later 1).uses = A.uses + 3 + w := by show A'.uses + 1 = _; omega
  have O := E3.store (i := 4 * w + 2 * 1 + 1 + 1 + k) (v := 1) (by omega) (by omega)
  have E4 := E3.out hA4 O
  generalize (A'.later 1).storeR (4 * w + 2 * 1 + 1 + 1 + k) 1 = A4 at *
  have u4 := O.us
  refine w_ldA 0 hA4 ok3 rfl rfl rfl ?_
  refine w_ldA 1 hA4 ok3 rfl rfl rfl ?_
  refine w_NewTurn (tw := w) (ta := 4 * w + 2 * 1 + 1) (work := 0) (p := plOf w (8 * 1)) (xs := []) (s := sl0) hA4 ok3 (.inl ⟨rfl, rfl⟩) (by show 0 ≤ 1000; decide) fun j5 okj5 rpj5 => ?_
  refine w_Uses hA4 ?_
  refine look_val (x := true) (nnT _) (wp_true rfl ?_)
  have r4 : ∀ i, 4 * w + 2 * 1 + 1 < i → A4.rawF i = if i = 4 * w + 2 * 1 + 1 + 1 + k then 1 else 0 := fun i hi => by
    rw [O.rf]; split
    · rfl
    · show A'.rawF i = 0; rw [rw' i hi]; exact r0 i
  have g4 : A4.rawF (4 * w + 2 * 1 + 1) = 1 := by
    rw [O.rf, if_neg (by omega)]; exact g
  obtain ⟨A5, S5, m5, n5, run5, hn5, ml5, mp5, E5, us5, rw5, st5, nR5⟩ := E4.block (xs := []) (e := 1) (k := k) (by omega) g4 (by decide) (by show 0 ≤ 50; decide) (by simp) (by rw [O.nR]; show (8 : Int) * 0 ≤ A'.nR; rw [nR, nr]; decide) (fun x hx => by cases hx) ⟨b0, b1⟩
    (fun i i0 i1 => .inl (by rw [r4 _ (by omega), if_neg (by omega)])) (by rw [r4 _ (by omega), if_pos rfl]; decide)
  have us5 : A5.uses = A4.uses + 2 + k := by rw [us5]; show A4.uses + 2 + k + 3 * 0 = _; omega
  refine w_runR13 mTn_ok mTn_inv run5 hn5 (j := j5) hA4 okj5 rpj5 fun j6 ha6 hA5 ok5 rp5 => ?_
  refine wp_true rfl ?_
  refine w_Uses hA5 ?_
  refine wp_true (ibeq (by rw [us5, w64_in (x := A4.uses + 2) (by omega) (by omega), w64_in (by omega) (by omega)])) ?_
  have E6 := E5 hA5
  obtain ⟨p6, ok6⟩ := own_perm (A := A5) (l' := eB x7 x8 w 1 (mTn.bl m5 j6 ++ mTn.bl m' j')) ok5 (perm_by fun c d c0 cd ca => by simp only [cd, ca, c0]; omega)
  have p6' : own A5 (mTn.bl m5 j6 ++ eB x7 x8 w 1 (mTn.bl m' j')) H = _ := p6
  rw [p6']
  refine w_ldA 0 hA5 ok6 rfl rfl rfl ?_
  refine wq_Global (tw := w) (ta := 4 * w + 2 * 1 + 1) ?_
  refine w_Raw hA5 fun hA7 => ?_
  refine wp_true (ibeq (by show A5.rawF (4 * w + 2 * 1 + 1) = 1; rw [rw5 _ (by omega)]; exact g4)) ?_
  have t7 := E6.touch (i := 4 * w + 2 * 1 + 1) (by omega) (by omega)
  rw [t7] at hA7 ⊢
  refine w_Fault hA7 ?_
  refine wp_true (by show (!A5.fault) = true; rw [E6.fa]; rfl) ?_
  refine wp_call_det (x := true) (awake13_det _) ?_
  exact ⟨H, own_end hA7 ok6 hI, rfl, rfl⟩

theorem EpochPins_det (p0 p1 p2 : Int) (H : Heap) : Det Try.prog f_magpielaw13_EpochPins [.int .i64 p0, .int .i64 p1, .int .i64 p2] H (.bool true) H := by
  refine t_magpielaw13_EpochPins_spec fun L => ?_
  unfold t_magpielaw13_EpochPins
  refine w_Place (by omega) (by omega) (w_Place (by omega) (by omega) ?_)
  have a0 := Int.emod_nonneg p0 (b := 8) (by omega)
  have a1 := Int.emod_lt_of_pos p0 (b := 8) (by omega)
  have c0 := Int.emod_nonneg p1 (b := 10) (by omega)
  have c1 := Int.emod_lt_of_pos p1 (b := 10) (by omega)
  generalize p0 % 8 = a at *
  generalize p1 % 10 = n at *
  have e1 : w64 (1 + a) = 1 + a := w64_in (by omega) (by omega)
  obtain ⟨w, ew⟩ : ∃ w, w = 1 + a := ⟨_, rfl⟩
  rw [e1, ← ew]
  refine wp_call_of (emake_spec w 1 (by omega) (by decide) H) ?_
  rintro v K ⟨A, rfl, rfl, hI, ok, E, r0, u0, nl, nr⟩
  refine ⟨(aI A.ids, (w, 0, 4 * w, 4 * w + (8 * 1 + 7) / 8, 4 * w + 2 * ((8 * 1 + 7) / 8), ()), (w, 4 * w + 2 * 1 + 1, ()), ()), rfl, ?_⟩
  have hA := E.aw
  have ok : Ok A.ids H (keys ([] : Bl)) := ok
  refine w_newP hA ok fun x10 ok => ?_
  refine w_newP hA ok fun x11 ok => ?_
  refine w_stA 1 hA ok rfl rfl rfl rfl ?_
  refine w_stA 0 hA ok rfl rfl rfl rfl ?_
  refine look_val (x := false) (np_some _) (wp_false rfl ?_)
  have ok : Ok A.ids H (keys (eB x10 x11 w 1 [])) := ok
  show wp Try.prog _ _ (own A (eB x10 x11 w 1 []) H) _
  refine wl_bi (fun _ i K => 0 ≤ i ∧ i ≤ n ∧ ∃ A1 S1 gb, EZ A.ids A1 w 1 S1 ∧ A1.rawF (4 * w + 2 * 1 + 1) = i ∧ (∀ j, 4 * w + 2 * 1 + 1 < j → A1.rawF j = 0) ∧ A1.uses ≤ 20 * i ∧ A1.nR = 0 ∧ Ok A.ids H (keys (eB x10 x11 w 1 gb)) ∧ K = own A1 (eB x10 x11 w 1 gb) H) (fun _ i => (n - i).toNat) false 0
    ⟨by omega, by omega, A, _, [], E, r0 _, fun j _ => r0 j, by omega, nr, ok, rfl⟩ ?_
  rintro q i K ⟨i0, i1, A1, S1, gb, E1, g1, z1, u1, nr1, ok1, rfl⟩
  have hA1 := E1.aw
  have us1 := E1.sl.F.us
  rw [t_magpielaw13_EpochPins_L1, e1, ← ew]
  have en1 : w64 (i + 1) = i + 1 := w64_in (by omega) (by omega)
  dsimp only
  rw [en1]
  by_cases ci : i < n
  · refine wp_true (decide_eq_true ci) ?_
    refine w_ldA 0 hA1 ok1 rfl rfl rfl ?_
    refine w_ldA 1 hA1 ok1 rfl rfl rfl ?_
    refine w_NewTurn (tw := w) (ta := 4 * w + 2 * 1 + 1) (work := 0) (p := plOf w (8 * 1)) (xs := []) (s := sl0) hA1 ok1 (.inl ⟨rfl, rfl⟩) (by show 0 ≤ 1000; decide) fun j okj rpj => ?_
    refine look_val (x := false) (eqT _) (wp_false rfl ?_)
    obtain ⟨A', S', m', n', run, hn, ml, mp, E', us, g, rw', st, nR⟩ := E1.free (xs := []) (e := i) (by omega) g1 (by omega) (by show 0 ≤ 50; decide) (by simp) (by rw [nr1]; decide) (fun x hx => by cases hx) fun k _ _ => .inl (z1 _ (by omega))
    have us : A'.uses = A1.uses + 2 + w := by rw [us]; show A1.uses + 2 + w + 3 * 0 = _; omega
    refine w_runR13 mTn_ok mTn_inv run hn (j := j) hA1 okj rpj fun j' ha hA2 ok2 rp2 => ?_
    refine wp_false rfl ?_
    obtain ⟨p2, ok3⟩ := own_perm (A := A') (l' := eB x10 x11 w 1 (mTn.bl m' j' ++ gb)) ok2 (perm_by fun c d c0 cd ca => by simp only [cd, ca, c0]; omega)
    have p2' : own A' (mTn.bl m' j' ++ eB x10 x11 w 1 gb) H = _ := p2
    rw [p2']
    exact wp_again ⟨q, i + 1, rfl, ⟨by omega, by omega, A', S', _, E' hA2, g, fun j hj => by rw [rw' j hj]; exact z1 j hj, by omega, by rw [nR, nr1]; rfl, ok3, rfl⟩, by omega⟩
  refine wp_false (decide_eq_false ci) ?_
  have ei : i = n := by omega
  subst ei
  refine w_Place (by omega) (by omega) ?_
  have b0 := Int.emod_nonneg p2 (b := w) (by omega)
  have b1 := Int.emod_lt_of_pos p2 (b := w) (by omega)
  generalize p2 % w = k at *
  refine w_ldA 0 hA1 ok1 rfl rfl rfl ?_
  refine w_NewPin (tw := w) (ta := 4 * w + 2 * 1 + 1) (work := k) hA1 ok1 fun q2 okq => ?_
  refine w_Uses hA1 ?_
  refine look_val (x := false) (eqP _) (wp_false rfl ?_)
  have rl := E1.rl
  obtain ⟨m', run⟩ := pin_solo (A := A1) (tw := w) (ta := 4 * w + 2 * 1 + 1) (who := k) (by omega) ⟨b0, by omega⟩ (by omega) (by omega) us1 (by omega) g1 (by omega)
  refine w_run13 mPn_ok mPn_inv run (by decide) (j := q2) hA1 okq fun j' ha hA2 ok2 => ?_
  refine wp_false rfl ?_
  have E2 := E1.later (n := 1) (by decide)
  have u2 : (A1.later 1).uses = A1.uses + 1 := rfl
  have O := E2.store (i := 4 * w + 2 * 1 + 1 + 1 + k) (v := i + 1) (by omega) (by omega)
  have hA3 : Aw A.ids ((A1.later 1).storeR (4 * w + 2 * 1 + 1 + 1 + k) (i + 1)) := E2.aw.storeR _ _
  have E3 := E2.out hA3 O
  generalize (A1.later 1).storeR (4 * w + 2 * 1 + 1 + 1 + k) (i + 1) = A3 at *
  have u3 := O.us
  refine w_Uses hA2 ?_
  refine wp_false (ibnf (by show A3.uses + 1 = w64 (A1.uses + 3); rw [w64_in (by omega) (by omega)]; omega)) ?_
  have E4 := E3.later (n := 1) (by decide)
  have u4 : (A3.later 1).uses = A3.uses + 1 := rfl
  obtain ⟨p2, ok3⟩ := own_perm (A := A3.later 1) (l' := eB x10 x11 w 1 (mPn.bl m' j' ++ gb)) ok2 (perm_by fun c d c0 cd ca => by simp only [cd, ca, c0]; omega)
  have p2' : own (A3.later 1) (mPn.bl m' j' ++ eB x10 x11 w 1 gb) H = _ := p2
  rw [p2']
  refine w_ldA 0 hA2 ok3 rfl rfl rfl ?_
  refine wq_Global (tw := w) (ta := 4 * w + 2 * 1 + 1) ?_
  refine w_Raw hA2 fun hA5 => ?_
  have t5 := E4.touch (i := 4 * w + 2 * 1 + 1) (by omega) (by omega)
  rw [t5, later_add] at hA5 ⊢
  refine wp_false (ibnf (by show A3.rawF _ = i; rw [O.rf, if_neg (by omega)]; exact g1)) ?_
  refine wl_bi (fun _ y K => 0 ≤ y ∧ y ≤ w ∧ K = own (A3.later (2 + y)) (eB x10 x11 w 1 (mPn.bl m' j' ++ gb)) H) (fun _ y => (w - y).toNat) q 0 ⟨by omega, by omega, rfl⟩ ?_
  rintro q y K ⟨y0, y1, rfl⟩
  have E5 := E3.later (n := 2 + y) (by omega)
  have hA6 := E5.aw
  rw [t_magpielaw13_EpochPins_L2, e1, ← ew]
  have eny : w64 (y + 1) = y + 1 := w64_in (by omega) (by omega)
  dsimp only
  rw [eny]
  by_cases cy : y < w
  · refine wp_true (decide_eq_true cy) ?_
    refine w_ldA 0 hA6 ok3 rfl rfl rfl ?_
    refine wq_EWord (tw := w) (ta := 4 * w + 2 * 1 + 1) ?_
    rw [ewd_eq ⟨by omega, by omega, by omega, by omega⟩]
    refine w_Raw hA6 fun hA7 => ?_
    have t7 := E5.touch (i := 4 * w + 2 * 1 + 1 + 1 + y) (by omega) (by show A3.uses + _ ≤ _; omega)
    rw [t7, later_add] at hA7 ⊢
    have rv : (A3.later (2 + y)).rawF (4 * w + 2 * 1 + 1 + 1 + y) = if y = k then i + 1 else 0 := by
      show A3.rawF _ = _
      rw [O.rf]
      by_cases e : y = k
      · rw [if_pos (by omega), if_pos e]
      · rw [if_neg (by omega), if_neg e]; exact z1 _ (by omega)
    rw [rv]
    by_cases e : y = k
    · rw [if_pos e]
      refine wp_true (ibeq e) (wp_false (ibnf (by rw [en1])) (wp_false (ibnf e) ?_))
      exact wp_again ⟨q, y + 1, rfl, ⟨by omega, by omega, by rw [show 2 + y + 1 = 2 + (y + 1) by omega]⟩, by omega⟩
    · rw [if_neg e]
      refine wp_false (ibef e) (wp_true (ibne e) (wp_false rfl ?_))
      exact wp_again ⟨q, y + 1, rfl, ⟨by omega, by omega, by rw [show 2 + y + 1 = 2 + (y + 1) by omega]⟩, by omega⟩
  · refine wp_false (decide_eq_false cy) ?_
    refine wp_call_det (x := true) (awake13_det _) ?_
    exact ⟨H, own_end hA6 ok3 hI, rfl, rfl⟩
end Go.Proofs.Ytfphgiipekkgdaa

set_option linter.unusedVariables false
set_option linter.unusedSimpArgs false
set_option maxRecDepth 20000
namespace Go.Proofs.Ytfphgiipekkgdaa
open Go Go.Fw

theorem due0 {e : Int} {x : Int × Int} (h : x.2 = 0) : due e x = decide (2 ≤ e) := by unfold due; rw [h]; rfl
theorem tgone0 {e : Int} {xs : List (Int × Int)} (h : ∀ x ∈ xs, x.2 = 0) : tgone e xs = if 2 ≤ e then xs.map Prod.fst else [] := by
  unfold tgone
  split
  · rename_i c
    rw [List.filter_eq_self.2 fun x hx => by rw [due0 (h x hx)]; exact decide_eq_true c]
  · rename_i c
    rw [List.filter_eq_nil_iff.2 fun x hx => by rw [due0 (h x hx), decide_eq_false c]; decide]; rfl
theorem tleft0 {e : Int} {xs : List (Int × Int)} (h : ∀ x ∈ xs, x.2 = 0) : tleft e xs = if 2 ≤ e then [] else xs := by
  unfold tleft
  split
  · rename_i c
    exact List.filter_eq_nil_iff.2 fun x hx => by rw [due0 (h x hx), decide_eq_true c]; decide
  · rename_i c
    exact List.filter_eq_self.2 fun x hx => by rw [due0 (h x hx), decide_eq_false c]; rfl

/-- Slots made, and retired at first. -/
structure ET (I : List Nat) (A : Ar) (w s i : Int) (S : Sg) (hs : List (Int × Int)) (z : Sl) (tl : Bl) : Prop where
  ez : EZ I A w s S
  ch : ∀ k, S.ch k = []
  cv : S.cv = 8 * i
  nR : A.nR = 8 * i
  nL : A.nL = 0
  us : A.uses ≤ 20 * i
  ln : (hs.length : Int) = i
  hl : SlOf tl ty_epoch_Limbo eL z hs
  st : ∀ x ∈ hs, x.2 = 0 ∧ A.stF x.1 = 2 ∧ opC x.1 = 0 ∧ opB x.1 < 8 * i
  nd : (hs.map fun x => opB x.1).Nodup
  rw : ∀ j, 4 * w + 2 * s < j → A.rawF j = 0
theorem ET.nd1 {I : List Nat} {A : Ar} {w s i : Int} {S : Sg} {hs : List (Int × Int)} {z : Sl} {tl : Bl} (M : ET I A w s i S hs z tl) : (hs.map Prod.fst).Nodup := by
  have h := M.nd
  rw [show (fun x : Int × Int => opB x.1) = opB ∘ Prod.fst from rfl, ← List.map_map] at h
  exact List.Pairwise.of_map opB (fun a b h e => h (by rw [e])) h

set_option maxHeartbeats 1000000 in
theorem EpochTurns_det (p0 p1 p2 p3 : Int) (H : Heap) : Det Try.prog f_magpielaw13_EpochTurns [.int .i64 p0, .int .i64 p1, .int .i64 p2, .int .i64 p3] H (.bool true) H := by
  refine t_magpielaw13_EpochTurns_spec fun L => ?_
  unfold t_magpielaw13_EpochTurns
  refine w_Place (by omega) (by omega) (w_Place (by omega) (by omega) (w_Place (by omega) (by omega) (w_Place (by omega) (by omega) ?_)))
  have a0 := Int.emod_nonneg p0 (b := 8) (by omega)
  have a1 := Int.emod_lt_of_pos p0 (b := 8) (by omega)
  have c0 := Int.emod_nonneg p1 (b := 12) (by omega)
  have c1 := Int.emod_lt_of_pos p1 (b := 12) (by omega)
  have d0 := Int.emod_nonneg p3 (b := 6) (by omega)
  have d1 := Int.emod_lt_of_pos p3 (b := 6) (by omega)
  have f0 := Int.emod_nonneg p2 (b := 14) (by omega)
  have f1 := Int.emod_lt_of_pos p2 (b := 14) (by omega)
  generalize p0 % 8 = a at *
  generalize p1 % 12 = n at *
  generalize p3 % 6 = s1 at *
  generalize p2 % 14 = at' at *
  have e1 : w64 (1 + a) = 1 + a := w64_in (by omega) (by omega)
  have e2 : w64 (1 + s1) = 1 + s1 := w64_in (by omega) (by omega)
  obtain ⟨w, ew⟩ : ∃ w, w = 1 + a := ⟨_, rfl⟩
  obtain ⟨s, es⟩ : ∃ s, s = 1 + s1 := ⟨_, rfl⟩
  rw [e1, e2, ← ew, ← es]
  refine wp_call_of (emake_spec w s (by omega) (by omega) H) ?_
  rintro v K ⟨A, rfl, rfl, hI, ok, E, r0, u0, nl, nr⟩
  refine ⟨(aI A.ids, (w, 0, 4 * w, 4 * w + (8 * s + 7) / 8, 4 * w + 2 * ((8 * s + 7) / 8), ()), (w, 4 * w + 2 * s + 1, ()), ()), rfl, ?_⟩
  have hA := E.aw
  have ok : Ok A.ids H (keys ([] : Bl)) := ok
  refine w_newP hA ok fun x14 ok => ?_
  refine w_newP hA ok fun x15 ok => ?_
  refine w_stA 1 hA ok rfl rfl rfl rfl ?_
  refine w_stA 0 hA ok rfl rfl rfl rfl ?_
  refine look_val (x := false) (np_some _) (wp_false rfl ?_)
  have ok : Ok A.ids H (keys (eB x14 x15 w s [])) := ok
  show wp Try.prog _ _ (own A (eB x14 x15 w s []) H) _
  have car : (plOf w (8 * s)).carved = 4 * w + 2 * s := by show 4 * w + 2 * ((8 * s + 7) / 8) = _; omega
  refine wl_bsi (fun _ z i K => 0 ≤ i ∧ i ≤ s ∧ ∃ A' S' hs tl, ET A.ids A' w s i S' hs z tl ∧ Ok A.ids H (keys (eB x14 x15 w s tl)) ∧ K = own A' (eB x14 x15 w s tl) H) (fun _ _ i => (s - i).toNat) false sl0 0
    ⟨by omega, by omega, A, _, [], [], ⟨E, fun _ => rfl, rfl, nr, nl, by omega, rfl, .inl ⟨rfl, rfl⟩, fun x hx => (by cases hx), .nil, fun j _ => r0 j⟩, ok, rfl⟩ ?_
  rintro q z i K ⟨i0, i1, A', S0, hs, tl, M, ok, rfl⟩
  rw [t_magpielaw13_EpochTurns_L1, e2, ← es]
  have hA := M.ez.aw
  by_cases ci : i < s
  · refine wp_true (decide_eq_true ci) ?_
    refine w_ldA 1 hA ok rfl rfl rfl ?_
    refine w_NewAlloc (p := plOf w (8 * s)) hA ok (by decide) fun j okj => ?_
    refine look_val (x := false) (ea_some _) (wp_false rfl ?_)
    have us := M.us
    have us0 := M.ez.sl.F.us
    obtain ⟨n', x', A2, S', Z⟩ := alloc_solo M.ez.sl hA.wf (by omega) (who := 0) (c := 0) ⟨by omega, by omega⟩ (by decide)
    have nn := Z.nn
    have n1 := Z.run.pos
    refine w_run13 mAl_ok mAl_inv Z.run (by omega) (j := j) hA okj fun j' ha hA2 ok2 => ?_
    refine wp_false rfl ?_
    obtain ⟨q9, j0, j1⟩ := j'
    have ha : q9 = j.1 := ha
    subst ha
    refine w_Handle 0 (x := x') hA2 ok2 rfl ?_
    have off := Z.off.us
    obtain ⟨k, b', l, h1, h2, _⟩ | ⟨h1, h2, h3, h4⟩ | ⟨h1, h2, _⟩ := Z.gives.or
    · rw [ask_nil M.ch] at h1; cases h1
    rotate_left
    · exfalso; apply h2; rw [M.cv]; show 8 * i + 8 ≤ 8 * s; omega
    obtain ⟨o1, o2, o3, o4, o5⟩ := carve_name M.ez.sl (by decide) h2
    rw [← h4] at o1 o2 o3 o4 o5
    have hst := Z.st x'.h
    rw [if_pos ⟨o5, rfl⟩] at hst
    have nL := Z.nL
    rw [if_pos o5, show sizeF 0 = 8 from rfl] at nL
    have nR := Z.nR
    have mnR := M.nR
    have mnL := M.nL
    obtain ⟨Y, yst, yL, yR⟩ := Z.sl.retire (by omega) hst ⟨by rw [o3, show sizeF 0 = 8 from rfl]; omega, by rw [o3, show sizeF 0 = 8 from rfl]; omega⟩
    rw [o3, show sizeF 0 = 8 from rfl] at yR yL
    refine w_Retire hA2 fun hA3 => ?_
    have tb : A2.turnB x'.h 1 = true := decide_eq_true hst
    rw [tb]
    refine wp_false rfl ?_
    have ro := Off.retireF (c := (plOf w (8 * s)).carved) hA2.wf x'.h
    have ru := ro.us
    refine w_newS hA3 ok2 fun g ok => ?_
    obtain ⟨p1, ok3⟩ := own_perm (A := A2.retireF x'.h) (l' := [(x15, oc ty_epoch_Table (tbC w (4 * w + 2 * s + 1))), (x14, oc ty_free_Place (plCells (plOf w (8 * s))))] ++ (((g, oc ty_epoch_Limbo [.int .i64 x'.h, .int .i64 0]) :: (mAl.bl x' (j.1, j0, j1) ++ tl)) ++ [])) ok (perm_by fun c d c0 cd ca => by simp only [cd, ca, c0]; omega)
    show wp Try.prog _ _ (own (A2.retireF x'.h) ((g, oc ty_epoch_Limbo [.int .i64 x'.h, .int .i64 0]) :: (mAl.bl x' (j.1, j0, j1) ++ (eB x14 x15 w s tl))) H) _
    rw [p1]
    have mln := M.ln
    refine w_appM (E := eL) elL _ (xs := hs) (ys := [(x'.h, 0)]) (t := ⟨some ⟨g, 0, none⟩, 1, 1⟩) hA3 ok3 (M.hl.mono fun p hp => List.mem_cons_of_mem _ (List.mem_append_right _ hp)) ?_ rfl (by simp only [List.length_cons, List.length_nil]; omega) fun s' mid' hs' ok => ?_
    · exact cell_row (c := [.int .i64 x'.h, .int .i64 0]) hA3 ok3 (List.mem_append_right _ (List.mem_append_left _ List.mem_cons_self)) 0 rfl
    have en1 : w64 (i + 1) = i + 1 := w64_in (by omega) (by omega)
    have eb : opB x'.h = 8 * i := by rw [o1, M.cv]
    rw [List.append_nil] at ok ⊢
    dsimp only
    rw [en1]
    refine wp_again ⟨q, s', i + 1, rfl, ⟨by omega, by omega, A2.retireF x'.h, S', hs ++ [(x'.h, 0)], mid', ⟨⟨hA3, Y, by rw [ro.fa, Z.off.fa, M.ez.fa], by rw [ro.rl, Z.off.rl]; exact M.ez.rl, M.ez.wb, M.ez.sb⟩, by rw [h3]; exact M.ch, by rw [h3]; show S0.cv + 8 = _; have := M.cv; omega, by rw [yR, nR, mnR]; omega, by rw [yL, nL, mnL]; rfl, by omega, by rw [List.length_append]; show ((hs.length + 1 : Nat) : Int) = _; omega, hs', ?_, ?_, ?_⟩, ok, rfl⟩, by omega⟩
    · intro x hx
      rw [yst x.1]
      rcases List.mem_append.1 hx with hx | hx
      · obtain ⟨b0, b1, b2, b3⟩ := M.st x hx
        have hne : x.1 ≠ x'.h := fun e => by rw [e] at b3; omega
        rw [if_neg hne, Z.st x.1, if_neg (fun e => hne e.2)]
        exact ⟨b0, b1, b2, by omega⟩
      · have : x = (x'.h, 0) := by simpa using hx
        subst this
        rw [if_pos rfl]
        exact ⟨rfl, rfl, o3, by show opB x'.h < _; omega⟩
    · rw [List.map_append]
      refine List.nodup_append.2 ⟨M.nd, by simp, fun b hb c hc e => ?_⟩
      obtain ⟨x, hx, rfl⟩ := List.mem_map.1 hb
      have : c = opB x'.h := by simpa using hc
      have := (M.st x hx).2.2.2
      omega
    · intro k hk
      rw [ro.rw k (by omega), Z.off.rw k (by omega)]
      exact M.rw k hk
  refine wp_false (decide_eq_false ci) ?_
  have ei : i = s := by omega
  subst ei
  have hnd := M.nd1
  have hln := M.ln
  have hst := M.st
  -- a turn
  have step : ∀ {L : Hands} {b : Bool} {z : Sl} {want y : Int} {A1 : Ar} {S1 : Sg} {xs : List (Int × Int)} {tl : Bl}, 0 ≤ y → y < n → EZ A.ids A1 w i S1 → A1.rawF (4 * w + 2 * i + 1) = want → (y ≤ at' → want = y) → (at' < y → want = at' + 1) →
      (∀ j, 0 ≤ j → j < w - 1 → A1.rawF (4 * w + 2 * i + 1 + 1 + j) = 0) → A1.rawF (4 * w + 2 * i + 1 + 1 + (w - 1)) = (if y < at' then 0 else at' + 1) → SlOf tl ty_epoch_Limbo eL z xs → xs = (if 2 ≤ want then [] else hs) → A1.nR = 8 * xs.length → (∀ x ∈ xs, A1.stF x.1 = 2) → A1.uses ≤ 1000 + 100 * y + 50 → Ok A.ids H (keys (eB x14 x15 w i tl)) →
      (∀ (z' : Sl) (want' : Int) (A2 : Ar) (S2 : Sg) (xs' : List (Int × Int)) (tl' : Bl), EZ A.ids A2 w i S2 → A2.rawF (4 * w + 2 * i + 1) = want' → (y + 1 ≤ at' → want' = y + 1) → (at' < y + 1 → want' = at' + 1) →
        (∀ j, 0 ≤ j → j < w - 1 → A2.rawF (4 * w + 2 * i + 1 + 1 + j) = 0) → A2.rawF (4 * w + 2 * i + 1 + 1 + (w - 1)) = (if y + 1 ≤ at' then 0 else at' + 1) → SlOf tl' ty_epoch_Limbo eL z' xs' → xs' = (if 2 ≤ want' then [] else hs) → A2.nR = 8 * xs'.length → (∀ x ∈ xs', A2.stF x.1 = 2) → A2.uses ≤ 1000 + 100 * (y + 1) → Ok A.ids H (keys (eB x14 x15 w i tl')) →
        wp Try.prog (.again 1216 [(.bool b), (.slice z'.a z'.len z'.cap), (.int .i64 want'), (.int .i64 (w64 (y + 1)))]) L (own A2 (eB x14 x15 w i tl') H) (fun u K => u = .bool true ∧ K = H)) →
      wp Try.prog (t_magpielaw13_EpochTurns_J9 s1 at' (aI A.ids, (w, 0, 4 * w, 4 * w + (8 * i + 7) / 8, 4 * w + 2 * ((8 * i + 7) / 8), ()), (w, 4 * w + 2 * i + 1, ()), ()) ⟨x14, 0, none⟩ ⟨x15, 0, none⟩ (b, z, want, y, ())) L (own A1 (eB x14 x15 w i tl) H) (fun u K => u = .bool true ∧ K = H) := by
    intro L b z want y A1 S1 xs tl y0 yn E1 g1 w1 w2 z1 zl hl hx hnr hxs hu ok1 hk
    have hA1 := E1.aw
    have us1 := E1.sl.F.us
    unfold t_magpielaw13_EpochTurns_J9
    have hxl : xs.length ≤ hs.length := by rw [hx]; split <;> simp
    have hsub : ∀ x ∈ xs, x ∈ hs := fun x hm => by rw [hx] at hm; split at hm; cases hm; exact hm
    have hz : ∀ x ∈ xs, x.2 = 0 := fun x hm => (hst x (hsub x hm)).1
    have xnd : (xs.map Prod.fst).Nodup := by rw [hx]; split; exact .nil; exact hnd
    have hh : ∀ x ∈ xs, A1.stF x.1 = 2 ∧ opC x.1 = 0 := fun x hm => ⟨hxs x hm, (hst x (hsub x hm)).2.2.1⟩
    refine w_ldA 0 hA1 ok1 rfl rfl rfl ?_
    refine w_ldA 1 hA1 ok1 rfl rfl rfl ?_
    refine w_NewTurn (tw := w) (ta := 4 * w + 2 * i + 1) (work := 0) (p := plOf w (8 * i)) (xs := xs) (s := z) hA1 ok1 (hl.mono fun p hp => List.mem_cons_of_mem _ (List.mem_cons_of_mem _ hp)) (by omega) fun j okj rpj => ?_
    refine look_val (x := false) (eqT _) (wp_false rfl ?_)
    by_cases cy : y ≤ at'
    · have ewt := w1 cy
      obtain ⟨A', S', m', n', run, hn, ml, mp, E', us, g, rw', st, nR⟩ := E1.free (xs := xs) (e := want) (by omega) g1 (by omega) (by omega) xnd (by omega) hh fun k k0 k1 => by
        by_cases e : k = w - 1
        · rw [e, zl]; split
          · exact .inl rfl
          · exact .inr (by omega)
        · exact .inl (z1 k k0 (by omega))
      rw [tgone0 hz] at us st nR
      rw [tleft0 hz] at ml
      refine w_runR13 mTn_ok mTn_inv run hn (j := j) hA1 okj rpj fun j' ha hA2 ok2 rp2 => ?_
      refine wp_false rfl ?_
      refine wp_true (decide_eq_true cy) ?_
      have ha : j'.q = j.q := ha
      have enw : w64 (want + 1) = want + 1 := w64_in (by omega) (by omega)
      rw [← ha]
      refine w_TLeft hA2 ok2 rp2 mp (by rw [ml]; split; exact Nat.zero_le _; omega) fun z2 tl2 hs2 ok3 => ?_
      rw [ml] at hs2
      obtain ⟨p2, ok4⟩ := own_perm (A := A') (l' := eB x14 x15 w i (tl2 ++ (Tn.bl m' j' ++ tl))) ok3 (perm_by fun c d c0 cd ca => by simp only [cd, ca, c0]; omega)
      have p2' : own A' (Tn.bl m' j' ++ (tl2 ++ eB x14 x15 w i tl)) H = _ := p2
      rw [p2']
      refine w_ldA 0 hA2 ok4 rfl rfl rfl ?_
      refine wq_Global (tw := w) (ta := 4 * w + 2 * i + 1) ?_
      have E2 := E' hA2
      refine w_Raw hA2 fun hA3 => ?_
      have usb : A'.uses ≤ 1000 + 100 * y + 90 := by
        rw [us]; split
        · rw [List.length_map]; omega
        · simp; omega
      have t1 := E2.touch (i := 4 * w + 2 * i + 1) (by omega) (by omega)
      rw [t1] at hA3 ⊢
      dsimp only
      rw [enw]
      refine wp_false (ibnf g) ?_
      have l2 := hs2.len
      have hx2 : (if 2 ≤ want + 1 then ([] : List (Int × Int)) else xs) = (if 2 ≤ want + 1 then [] else hs) := by
        by_cases e : 2 ≤ want + 1
        · rw [if_pos e, if_pos e]
        · rw [if_neg e, if_neg e, hx, if_neg (by omega)]
      rw [hx2] at hs2 l2 ml
      refine wp_false ?_ ?_
      · rw [l2]
        by_cases e : 2 ≤ want + 1
        · rw [if_pos e, decide_eq_true (show want + 1 ≥ 2 by omega)]; rfl
        · rw [if_neg e, decide_eq_false (show ¬ want + 1 ≥ 2 by omega), hln, ibef (show i ≠ 0 by omega)]; rfl
      have key : wp Try.prog (.again 1216 [(.bool b), (.slice z2.a z2.len z2.cap), (.int .i64 (want + 1)), (.int .i64 (w64 (y + 1)))]) L (own (A'.later 1) (eB x14 x15 w i (tl2 ++ (Tn.bl m' j' ++ tl))) H) (fun u K => u = .bool true ∧ K = H) := by
        refine hk z2 (want + 1) (A'.later 1) S' _ _ (E2.later (by decide)) g (fun h => by omega) (fun h => by omega) (fun j j0 j1 => ?_) ?_ (hs2.mono fun p hp => List.mem_append_left _ hp) rfl ?_ (fun x hm => ?_) (by show A'.uses + 1 ≤ _; omega) ok4
        · show A'.rawF _ = 0; rw [rw' _ (by omega)]; exact z1 j j0 j1
        · show A'.rawF _ = _; rw [rw' _ (by omega), zl]
          by_cases e : y < at'
          · rw [if_pos e, if_pos (by omega)]
          · rw [if_neg e, if_neg (by omega)]
        · show A'.nR = _
          rw [nR, hnr]
          by_cases e : 2 ≤ want + 1
          · rw [if_pos e, if_pos e, List.length_map]; simp
          · rw [if_neg e, if_neg e, hx, if_neg (by omega)]; simp
        · show A'.stF x.1 = 2
          rw [st]
          by_cases e : 2 ≤ want + 1
          · rw [if_pos e] at hm; cases hm
          · rw [if_neg e, if_neg (by simp)]
            rw [if_neg e] at hm
            refine hxs x ?_
            rw [hx, if_neg (by omega)]; exact hm
      by_cases e : 2 ≤ want + 1
      · refine wp_false (ibnf (by show ((z2.len : Nat) : Int) = 0; rw [l2, if_pos e]; rfl)) key
      · refine wp_true (ibne (by show ((z2.len : Nat) : Int) ≠ 0; rw [l2, if_neg e]; omega)) ?_
        exact wp_false (ibnf (by show ((z2.len : Nat) : Int) = w64 (1 + s1); rw [l2, if_neg e, e2]; omega)) key
    · have ewt := w2 (by omega)
      rw [if_neg (by omega)] at zl
      obtain ⟨A', S', m', n', run, hn, ml, mp, E', us, rw', st, nR⟩ := E1.block (xs := xs) (e := want) (k := w - 1) (by omega) g1 (by omega) (by omega) xnd (by omega) hh ⟨by omega, by omega⟩ (fun k k0 k1 => .inl (z1 k k0 k1)) ⟨by rw [zl]; omega, by rw [zl]; omega⟩
      rw [tgone0 hz] at us st nR
      rw [tleft0 hz] at ml
      have hx2 : (if 2 ≤ want then ([] : List (Int × Int)) else xs) = xs := by
        by_cases e : 2 ≤ want
        · rw [if_pos e, hx, if_pos e]
        · rw [if_neg e]
      rw [hx2] at ml
      have hg : (if 2 ≤ want then xs.map Prod.fst else []) = [] := by
        by_cases e : 2 ≤ want
        · rw [if_pos e, hx, if_pos e]; rfl
        · rw [if_neg e]
      rw [hg] at us st nR
      refine w_runR13 mTn_ok mTn_inv run hn (j := j) hA1 okj rpj fun j' ha hA2 ok2 rp2 => ?_
      refine wp_false rfl ?_
      refine wp_false (decide_eq_false cy) ?_
      have ha : j'.q = j.q := ha
      rw [← ha]
      refine w_TLeft hA2 ok2 rp2 mp (by rw [ml]; omega) fun z2 tl2 hs2 ok3 => ?_
      rw [ml] at hs2
      obtain ⟨p2, ok4⟩ := own_perm (A := A') (l' := eB x14 x15 w i (tl2 ++ (Tn.bl m' j' ++ tl))) ok3 (perm_by fun c d c0 cd ca => by simp only [cd, ca, c0]; omega)
      have p2' : own A' (Tn.bl m' j' ++ (tl2 ++ eB x14 x15 w i tl)) H = _ := p2
      rw [p2']
      refine w_ldA 0 hA2 ok4 rfl rfl rfl ?_
      refine wq_Global (tw := w) (ta := 4 * w + 2 * i + 1) ?_
      have E2 := E' hA2
      refine w_Raw hA2 fun hA3 => ?_
      have usb : A'.uses ≤ 1000 + 100 * y + 90 := by
        rw [us]; show A1.uses + 2 + (w - 1) + 3 * 0 ≤ _; omega
      have t1 := E2.touch (i := 4 * w + 2 * i + 1) (by omega) (by omega)
      rw [t1] at hA3 ⊢
      have g2 : A'.rawF (4 * w + 2 * i + 1) = want := by rw [rw' _ (by omega)]; exact g1
      dsimp only
      refine wp_false (ibnf g2) ?_
      have l2 := hs2.len
      refine wp_false ?_ ?_
      · rw [l2, hx]
        by_cases e : 2 ≤ want
        · rw [if_pos e, decide_eq_true (show want ≥ 2 by omega)]; rfl
        · rw [if_neg e, decide_eq_false (show ¬ want ≥ 2 by omega), hln, ibef (show i ≠ 0 by omega)]; rfl
      have key : wp Try.prog (.again 1216 [(.bool b), (.slice z2.a z2.len z2.cap), (.int .i64 want), (.int .i64 (w64 (y + 1)))]) L (own (A'.later 1) (eB x14 x15 w i (tl2 ++ (Tn.bl m' j' ++ tl))) H) (fun u K => u = .bool true ∧ K = H) := by
        refine hk z2 want (A'.later 1) S' xs _ (E2.later (by decide)) g2 (fun h => by omega) (fun h => by omega) (fun j j0 j1 => ?_) ?_ (hs2.mono fun p hp => List.mem_append_left _ hp) hx ?_ (fun x hm => ?_) (by show A'.uses + 1 ≤ _; omega) ok4
        · show A'.rawF _ = 0; rw [rw' _ (by omega)]; exact z1 j j0 j1
        · show A'.rawF _ = _; rw [rw' _ (by omega), zl, if_neg (by omega)]
        · show A'.nR = _
          rw [nR, hnr]; simp
        · show A'.stF x.1 = 2
          rw [st, if_neg (by simp)]; exact hxs x hm
      by_cases e : 2 ≤ want
      · refine wp_false (ibnf (by show ((z2.len : Nat) : Int) = 0; rw [l2, hx, if_pos e]; rfl)) key
      · refine wp_true (ibne (by show ((z2.len : Nat) : Int) ≠ 0; rw [l2, hx, if_neg e]; omega)) ?_
        exact wp_false (ibnf (by show ((z2.len : Nat) : Int) = w64 (1 + s1); rw [l2, hx, if_neg e, e2]; omega)) key
  refine wl_bsii (fun _ z want y K => 0 ≤ y ∧ y ≤ n ∧ ∃ A1 S1 xs tl, EZ A.ids A1 w i S1 ∧ A1.rawF (4 * w + 2 * i + 1) = want ∧ (y ≤ at' → want = y) ∧ (at' < y → want = at' + 1) ∧
      (∀ j, 0 ≤ j → j < w - 1 → A1.rawF (4 * w + 2 * i + 1 + 1 + j) = 0) ∧ A1.rawF (4 * w + 2 * i + 1 + 1 + (w - 1)) = (if y ≤ at' then 0 else at' + 1) ∧ SlOf tl ty_epoch_Limbo eL z xs ∧ xs = (if 2 ≤ want then [] else hs) ∧ A1.nR = 8 * xs.length ∧ (∀ x ∈ xs, A1.stF x.1 = 2) ∧ A1.uses ≤ 1000 + 100 * y ∧ Ok A.ids H (keys (eB x14 x15 w i tl)) ∧ K = own A1 (eB x14 x15 w i tl) H)
    (fun _ _ _ y => (n - y).toNat) q z 0 0 ⟨by omega, by omega, A', S0, hs, tl, M.ez, M.rw _ (by omega), fun _ => rfl, fun h => by omega, fun j j0 j1 => M.rw _ (by omega), by rw [if_pos f0]; exact M.rw _ (by omega), M.hl, rfl, by rw [M.nR, ← hln], fun x hx => (hst x hx).2.1, by have := M.us; omega, ok, rfl⟩ ?_
  rintro q z want y K ⟨y0, y1, A1, S1, xs, tl, E1, g1, w1, w2, z1, zl, hl, hx, hnr, hxs, hu, ok1, rfl⟩
  have hA1 := E1.aw
  have us1 := E1.sl.F.us
  have rl := E1.rl
  have eny : w64 (y + 1) = y + 1 := w64_in (by omega) (by omega)
  rw [t_magpielaw13_EpochTurns_L2, e1, ← ew]
  by_cases cy : y < n
  · refine wp_true (decide_eq_true cy) ?_
    by_cases ca : y = at'
    · have ewt := w1 (by omega)
      refine wp_true (ibeq ca) ?_
      have ew1 : w64 (w - 1) = w - 1 := w64_in (by omega) (by omega)
      rw [ew1]
      refine w_ldA 0 hA1 ok1 rfl rfl rfl ?_
      refine w_NewPin (tw := w) (ta := 4 * w + 2 * i + 1) (work := w - 1) hA1 ok1 fun q2 okq => ?_
      refine look_val (x := false) (eqP _) (wp_false rfl ?_)
      obtain ⟨m', run⟩ := pin_solo (A := A1) (tw := w) (ta := 4 * w + 2 * i + 1) (who := w - 1) (by omega) ⟨by omega, by omega⟩ (by omega) (by omega) us1 (by omega) g1 (by omega)
      refine w_run13 mPn_ok mPn_inv run (by decide) (j := q2) hA1 okq fun j' ha hA2 ok2 => ?_
      refine wp_false rfl ?_
      have E2 := E1.later (n := 1) (by decide)
      have u2 : (A1.later 1).uses = A1.uses + 1 := rfl
      have O := E2.store (i := 4 * w + 2 * i + 1 + 1 + (w - 1)) (v := want + 1) (by omega) (by omega)
      have hA3 : Aw A.ids ((A1.later 1).storeR (4 * w + 2 * i + 1 + 1 + (w - 1)) (want + 1)) := E2.aw.storeR _ _
      have E3 := E2.out hA3 O
      generalize (A1.later 1).storeR (4 * w + 2 * i + 1 + 1 + (w - 1)) (want + 1) = A3 at *
      have u3 := O.us
      obtain ⟨p2, ok3⟩ := own_perm (A := A3.later 1) (l' := eB x14 x15 w i (mPn.bl m' j' ++ tl)) ok2 (perm_by fun c d c0 cd ca => by simp only [cd, ca, c0]; omega)
      rw [p2]
      refine w_ldA 0 hA2 ok3 rfl rfl rfl ?_
      refine wq_EWord (tw := w) (ta := 4 * w + 2 * i + 1) ?_
      rw [ewd_eq ⟨by omega, by omega, by omega, by omega⟩]
      have E4 := E3.later (n := 1) (by decide)
      have u4 : (A3.later 1).uses = A3.uses + 1 := rfl
      refine w_Raw hA2 fun hA5 => ?_
      have t5 := E4.touch (i := 4 * w + 2 * i + 1 + 1 + (w - 1)) (by omega) (by omega)
      rw [t5, later_add] at hA5 ⊢
      have enw : w64 (want + 1) = want + 1 := w64_in (by omega) (by omega)
      refine wp_false (ibnf (by show A3.rawF _ = w64 (want + 1); rw [enw, O.rf, if_pos rfl])) ?_
      refine step y0 cy (E3.later (n := 1 + 1) (by decide)) (by show A3.rawF _ = _; rw [O.rf, if_neg (by omega)]; exact g1) w1 w2 (fun j j0 j1 => by show A3.rawF _ = _; rw [O.rf, if_neg (by omega)]; exact z1 j j0 j1) ?_ (hl.mono fun p hp => List.mem_append_right _ hp) hx (by show A3.nR = _; rw [O.nR]; exact hnr) (fun x hm => by show A3.stF x.1 = 2; rw [O.st]; exact hxs x hm) (by show A3.uses + (1 + 1) ≤ _; omega) ok3 ?_
      · show A3.rawF _ = _; rw [O.rf, if_pos rfl, if_neg (by omega)]; omega
      · intro z' want' A2 S2 xs' tl' k1 k2 k3 k4 k5 k6 k7 k8 k9 k10 k11 k12
        rw [eny]
        exact wp_again ⟨q, z', want', y + 1, rfl, ⟨by omega, by omega, A2, S2, xs', tl', k1, k2, k3, k4, k5, k6, k7, k8, k9, k10, k11, k12, rfl⟩, by omega⟩
    · refine wp_false (ibef ca) ?_
      refine step y0 cy E1 g1 w1 w2 z1 ?_ hl hx hnr hxs (by omega) ok1 ?_
      · rw [zl]
        by_cases e : y ≤ at'
        · rw [if_pos e, if_pos (by omega)]
        · rw [if_neg e, if_neg (by omega)]
      · intro z' want' A2 S2 xs' tl' k1 k2 k3 k4 k5 k6 k7 k8 k9 k10 k11 k12
        rw [eny]
        exact wp_again ⟨q, z', want', y + 1, rfl, ⟨by omega, by omega, A2, S2, xs', tl', k1, k2, k3, k4, k5, k6, k7, k8, k9, k10, k11, k12, rfl⟩, by omega⟩
  · refine wp_false (decide_eq_false cy) ?_
    refine w_Fault hA1 ?_
    refine wp_true (by rw [E1.fa]; rfl) ?_
    refine wp_call_det (x := true) (awake13_det _) ?_
    exact ⟨H, own_end hA1 ok1 hI, rfl, rfl⟩
end Go.Proofs.Ytfphgiipekkgdaa


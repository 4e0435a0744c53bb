import Derived.Test.YtgnifhkjpekkdaaSaCOwn
set_option linter.unusedVariables false
set_option maxRecDepth 20000
namespace Go.Proofs.Ytgnifhkjpekkdaa
open Go Go.Fw

@[reducible] def aI (I : List Nat) : Option Addr := some ⟨I.headD 0, 0, none⟩
theorem Aw.pA {I : List Nat} {A : Ar} (h : Aw I A) : .pointer (aI I) = pA A := by unfold Proofs.Ytgnifhkjpekkdaa.pA aI; rw [← h.ids]; rfl
theorem Aw.of {I : List Nat} {A B : Ar} (h : Aw I A) (al : Ar.Alike A B) (w : B.wf) : Aw I B := ⟨w, al.ids.trans h.ids⟩

def Ar.bornX (A : Ar) (h : Int) : Ar := if A.bornOk h then A.bornF h else A

section
variable {L : Hands} {R : Value → Heap → Prop} {A : Ar} {I : List Nat} {l : Bl} {G : Heap}

theorem Aw.touchR (h : Aw I A) (i : Int) : Aw I (A.touchR i) := h.of (touchR_alike A i) (touchR_wf h.wf i)
theorem Aw.storeR (h : Aw I A) (i v : Int) : Aw I (A.storeR i v) := h.of (storeR_alike A i v) (storeR_wf h.wf i v)
theorem Aw.swapR (h : Aw I A) (i v w : Int) : Aw I (A.swapR i v w) := h.of (swapR_alike A i v w) (swapR_wf h.wf i v w)
theorem Aw.touch (h : Aw I A) (k i : Int) : Aw I (A.touch k i) := h.of (touch_alike A k i) (touch_wf h.wf k i)
theorem Aw.storeF (h : Aw I A) (k i v : Int) : Aw I (A.storeF k i v) := h.of (storeF_alike A k i v) (storeF_wf h.wf k i v)
theorem Aw.retireF (h : Aw I A) (k : Int) : Aw I (A.retireF k) := h.of (retireF_alike A k) (retireF_wf h.wf k)
theorem Aw.diedF (h : Aw I A) (k : Int) : Aw I (A.diedF k) := h.of (diedF_alike A k) (diedF_wf h.wf k)
theorem Aw.bornX (h : Aw I A) (k : Int) : Aw I (A.bornX k) := by
  unfold Ar.bornX; split
  · rename_i e; exact h.of (bornF_alike A k) (bornF_wf h.wf k e.2.1)
  · exact h

theorem w_Raw {i : Int} {k : Int → Tree} (hA : Aw I A) (h : Aw I (A.touchR i) → wp Try.prog (k (A.rawF i)) L (own (A.touchR i) l G) R) :
    wp Try.prog (.call f_arena_Arena_Raw [.pointer (aI I), .int .i64 i] (.one (.leaf (.int .i64))) k) L (own A l G) R :=
  wp_call_det (x := A.rawF i) (by rw [hA.pA]; exact Raw_det hA.wf i _) (h (hA.touchR i))
theorem w_SetRaw {i v : Int} {k : Unit → Tree} (hA : Aw I A) (h : Aw I (A.storeR i v) → wp Try.prog (k ()) L (own (A.storeR i v) l G) R) :
    wp Try.prog (.call f_arena_Arena_SetRaw [.pointer (aI I), .int .i64 i, .int .i64 v] .unit k) L (own A l G) R :=
  wp_call_det (x := ()) (by rw [hA.pA]; exact SetRaw_det hA.wf i v _) (h (hA.storeR i v))
theorem w_SwapRaw {i v w : Int} {k : Bool → Tree} (hA : Aw I A) (h : Aw I (A.swapR i v w) → wp Try.prog (k (A.swapRb i v)) L (own (A.swapR i v w) l G) R) :
    wp Try.prog (.call f_arena_Arena_SwapRaw [.pointer (aI I), .int .i64 i, .int .i64 v, .int .i64 w] (.one (.leaf .bool)) k) L (own A l G) R :=
  wp_call_det (x := A.swapRb i v) (by rw [hA.pA]; exact SwapRaw_det hA.wf i v w _) (h (hA.swapR i v w))
theorem w_Load {b i : Int} {k : Int → Tree} (hA : Aw I A) (h : Aw I (A.touch b i) → wp Try.prog (k (A.loadF b i)) L (own (A.touch b i) l G) R) :
    wp Try.prog (.call f_arena_Arena_Load [.pointer (aI I), .int .i64 b, .int .i64 i] (.one (.leaf (.int .i64))) k) L (own A l G) R :=
  wp_call_det (x := A.loadF b i) (by rw [hA.pA]; exact Load_det hA.wf b i _) (h (hA.touch b i))
theorem w_Store {b i v : Int} {k : Unit → Tree} (hA : Aw I A) (h : Aw I (A.storeF b i v) → wp Try.prog (k ()) L (own (A.storeF b i v) l G) R) :
    wp Try.prog (.call f_arena_Arena_Store [.pointer (aI I), .int .i64 b, .int .i64 i, .int .i64 v] .unit k) L (own A l G) R :=
  wp_call_det (x := ()) (by rw [hA.pA]; exact Store_det hA.wf b i v _) (h (hA.storeF b i v))
theorem w_State {b : Int} {k : Int → Tree} (hA : Aw I A) (h : wp Try.prog (k (A.stF b)) L (own A l G) R) :
    wp Try.prog (.call f_arena_Arena_State [.pointer (aI I), .int .i64 b] (.one (.leaf (.int .i64))) k) L (own A l G) R :=
  wp_call_det (x := A.stF b) (by rw [hA.pA]; exact State_det hA.wf.nd b _) h
theorem w_Retire {b : Int} {k : Bool → Tree} (hA : Aw I A) (h : Aw I (A.retireF b) → wp Try.prog (k (A.turnB b 1)) L (own (A.retireF b) l G) R) :
    wp Try.prog (.call f_arena_Arena_Retire [.pointer (aI I), .int .i64 b] (.one (.leaf .bool)) k) L (own A l G) R :=
  wp_call_det (x := A.turnB b 1) (by rw [hA.pA]; exact Retire_det hA.wf.nd b _) (h (hA.retireF b))
theorem w_Died {b : Int} {k : Bool → Tree} (hA : Aw I A) (h : Aw I (A.diedF b) → wp Try.prog (k (A.turnB b 2)) L (own (A.diedF b) l G) R) :
    wp Try.prog (.call f_arena_Arena_Died [.pointer (aI I), .int .i64 b] (.one (.leaf .bool)) k) L (own A l G) R :=
  wp_call_det (x := A.turnB b 2) (by rw [hA.pA]; exact Died_det hA.wf b _) (h (hA.diedF b))
theorem w_Born {b : Int} {k : Bool → Tree} (hA : Aw I A) (h : Aw I (A.bornX b) → wp Try.prog (k (decide (A.bornOk b))) L (own (A.bornX b) l G) R) :
    wp Try.prog (.call f_arena_Arena_Born [.pointer (aI I), .int .i64 b] (.one (.leaf .bool)) k) L (own A l G) R :=
  wp_call_det (x := decide (A.bornOk b)) (H' := own (A.bornX b) l G) (by
    rw [hA.pA]
    have := Born_det hA.wf b (putL l G)
    unfold own Ar.bornX
    exact this) (h (hA.bornX b))
theorem w_Uses {k : Int → Tree} (hA : Aw I A) (h : wp Try.prog (k A.uses) L (own A l G) R) :
    wp Try.prog (.call f_arena_Arena_Uses [.pointer (aI I)] (.one (.leaf (.int .i64))) k) L (own A l G) R :=
  wp_call_det (x := A.uses) (by rw [hA.pA]; exact Uses_det _) h
theorem w_Fault {k : Bool → Tree} (hA : Aw I A) (h : wp Try.prog (k A.fault) L (own A l G) R) :
    wp Try.prog (.call f_arena_Arena_Fault [.pointer (aI I)] (.one (.leaf .bool)) k) L (own A l G) R :=
  wp_call_det (x := A.fault) (by rw [hA.pA]; exact Fault_det _) h
theorem w_Count {k : HL Leaf.T [.int .i64, .int .i64, .int .i64, .int .i64] → Tree} (hA : Aw I A) (h : wp Try.prog (k (A.nC, A.nL, A.nR, A.nF, ())) L (own A l G) R) :
    wp Try.prog (.call f_arena_Arena_Count [.pointer (aI I)] (.one (.agg [.int .i64, .int .i64, .int .i64, .int .i64])) k) L (own A l G) R :=
  wp_call_det (x := (A.nC, A.nL, A.nR, A.nF, ())) (by rw [hA.pA]; exact Count_det _) h

theorem wq_Size {c : Int} {k : Int → Tree} {H : Heap} (h : wp Try.prog (k (sizeF c)) L H R) : wp Try.prog (.qcall f_handle_Size [.int .i64 c] (.one (.leaf (.int .i64))) k) L H R := wp_qcall_det (x := sizeF c) (Size_det _ _) h
theorem wq_Open {b : Int} {k : HL Sh1.T [(.leaf (.int .i64)), (.leaf (.int .i64)), (.leaf (.int .i64)), (.leaf .bool)] → Tree} {H : Heap} (h : wp Try.prog (k (opB b, opG b, opC b, openOk b, ())) L H R) :
    wp Try.prog (.qcall f_handle_Open [.int .i64 b] (.tup [(.leaf (.int .i64)), (.leaf (.int .i64)), (.leaf (.int .i64)), (.leaf .bool)]) k) L H R := wp_qcall_det (x := (opB b, opG b, opC b, openOk b, ())) (Open_all _ _) h
theorem wq_Pack {b g c : Int} {k : Int → Tree} {H : Heap} (h : wp Try.prog (k (packF b g c)) L H R) : wp Try.prog (.qcall f_handle_Pack [.int .i64 b, .int .i64 g, .int .i64 c] (.one (.leaf (.int .i64))) k) L H R := wp_qcall_det (x := packF b g c) (Pack_at _ rfl) h
theorem wq_head {p : Pl} {w c : Int} {k : Int → Tree} {H : Heap} (h : wp Try.prog (k (headF p w c)) L H R) : wp Try.prog (.qcall f_free_Place_head [p.val, .int .i64 w, .int .i64 c] (.one (.leaf (.int .i64))) k) L H R := wp_qcall_det (x := headF p w c) (head_det p w c _) h
end
end Go.Proofs.Ytgnifhkjpekkdaa

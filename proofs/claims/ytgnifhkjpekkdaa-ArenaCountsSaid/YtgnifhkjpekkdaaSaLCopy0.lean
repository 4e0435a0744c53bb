import Derived.Test.YtgnifhkjpekkdaaSaCCopy
import Derived.Test.YtgnifhkjpekkdaaSaLRing
import Derived.Test.YtgnifhkjpekkdaaSaTrCopy15
set_option linter.unusedVariables false
set_option maxRecDepth 20000
namespace Go.Proofs.Ytgnifhkjpekkdaa
open Go Go.Fw

theorem RingNone_det (h i a b : Int) (H : Heap) : Det Try.prog f_magpielaw15_RingNone [.int .i64 h, .int .i64 i, .int .i64 a, .int .i64 b] H (.bool true) H := by
  refine t_magpielaw15_RingNone_spec fun L => ?_
  unfold t_magpielaw15_RingNone
  refine wp_qcall_det (Open_all _ _) ?_
  have hr := roomF_of h
  cases hk : openOk h with
  | true =>
    refine wp_true rfl ?_
    refine wp_qcall_det (Room_det _ _) ?_
    have h8 : 8 ≤ roomF h := by
      have hz : roomF h ≠ 0 := by
        unfold roomF; rw [hk, if_pos rfl]
        have hv := (open_ok hk).1
        obtain ⟨_, _, _, _, h5, h6⟩ := hv
        have := sizeF_cases h5 h6
        omega
      omega
    refine wp_true (decide_eq_true (by exact h8)) ?_
    exact wp_call_det (awake15_det H) (wp_ret_of ⟨rfl, rfl⟩)
  | false =>
    have h0 : roomF h = 0 := by unfold roomF; rw [hk]; rfl
    refine wp_false rfl ?_
    refine wp_call_of (New_spec 0 64 false H (by omega) (by omega)) ?_
    rintro v K ⟨A, hm, hi, rfl, rfl⟩
    refine ⟨some ⟨A.a, 0, none⟩, rfl, ?_⟩
    refine wp_qcall_det (Place_det _ _ (by omega) (by omega) _) ?_
    refine wp_qcall_det (Place_det _ _ (by omega) (by omega) _) ?_
    have a1 := Int.emod_nonneg a (b := 1000) (by omega)
    have a2 := Int.emod_lt_of_pos a (b := 1000) (by omega)
    have b1 := Int.emod_nonneg b (b := 50) (by omega)
    have b2 := Int.emod_lt_of_pos b (b := 50) (by omega)
    rw [w64_in (x := a % 1000 - b % 50) (by omega) (by omega)]
    refine wp_call_of (NewCopy_spec (A := A) _ _ _ _ H) ?_
    rintro v K ⟨C, hC, hci, c1, c2, c3, c4, c5, c6, rfl, rfl⟩
    refine ⟨some ⟨C.q, 0, none⟩, rfl, ?_⟩
    refine look_val (x := true) (na_some _) (wp_true rfl ?_)
    refine look_val (x := true) (nc_some _) (wp_true rfl ?_)
    refine wp_qcall_det (Room_det _ _) (wp_true (ibeq h0) ?_)
    refine wp_call_det (x := (0 : Int)) (Word_at _ (by unfold wordF; rw [if_pos h0])) (wp_true rfl ?_)
    have he : C.fin ≤ C.at' := by omega
    refine wp_call_det (x := true) (Step_end hC he H) (wp_true rfl ?_)
    refine wp_call_det (x := true) (Step_end hC he H) (wp_true rfl ?_)
    refine wp_call_det (x := (0 : Int)) (Uses_at rfl hm.uses _) (wp_true rfl ?_)
    refine wp_call_det (x := false) (Fault_at rfl hm.fault _) (wp_true rfl ?_)
    refine wp_call_det (awake15_det _) ?_
    exact ⟨H, Heap.le_trans (put_new hi) (Ar.put_le (cp_le hci)), rfl, rfl⟩
end Go.Proofs.Ytgnifhkjpekkdaa

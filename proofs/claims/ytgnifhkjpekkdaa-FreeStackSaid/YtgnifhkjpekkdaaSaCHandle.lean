import Derived.Test.YtgnifhkjpekkdaaSaTrHandle
import Derived.Test.YtgnifhkjpekkdaaSaPHandle
set_option linter.unusedVariables false
namespace Go.Proofs.Ytgnifhkjpekkdaa
open Go Go.Fw

theorem tmod_place (v n : Int) (hn : 0 < n) : (if v.tmod n < 0 then v.tmod n + n else v.tmod n) = v % n := by
  have h1 := Int.emod_nonneg v (by omega : n ≠ 0)
  have h2 := Int.emod_lt_of_pos v hn
  have h3 := Int.tmod_eq_emod (a := v) (b := n)
  rw [h3]
  split at h3 <;> rename_i h
  · rw [if_pos h]; simp; omega
  · rw [if_neg h]
    have : (n.natAbs : Int) = n := by omega
    split <;> omega

theorem Place_det (v n : Int) (hn : 0 < n) (hn2 : n ≤ 4611686018427387904) (H : Heap) : Det Try.prog f_magpielaw00_Place [.int .i64 v, .int .i64 n] H (.int .i64 (v % n)) H := by
  refine t_magpielaw00_Place_spec fun L => ?_
  unfold t_magpielaw00_Place
  refine look_val (x := v.tmod n) (opS_rem (by omega)) ?_
  rw [wp_bif]
  have h := tmod_place v n hn
  have h1 := Int.emod_nonneg v (by omega : n ≠ 0)
  have h2 := Int.emod_lt_of_pos v hn
  constructor
  · intro hb
    rw [decide_eq_true_eq] at hb
    rw [if_pos hb] at h
    refine wp_ret_of ⟨?_, rfl⟩
    rw [w64_in (by omega) (by omega), h]
  · intro hb
    rw [decide_eq_false_iff_not] at hb
    rw [if_neg hb] at h
    exact wp_ret_of ⟨by rw [h], rfl⟩

theorem places_det (H : Heap) : Det Try.prog f_handle_places [] H (.agg #[.int .i64 0, .int .i64 2, .int .i64 32]) H := by
  refine t_handle_places_spec fun L => ?_
  unfold t_handle_places
  refine wp_newP fun b hb => ?_
  refine wp_stA_of (Heap.set_same _ _ _) (by simp) (by simp [Value.single]) ?_
  rw [Heap.set_set]
  refine ⟨(0, 2, 32, ()), ldK_still (Heap.set_same _ _ _) 3 0 #[] (by simp [putAll]) rfl, H, Heap.le_set_new _ hb, rfl, rfl⟩

theorem masks_det (H : Heap) : Det Try.prog f_handle_masks [] H (.agg #[.int .i64 3, .int .i64 1073741823, .int .i64 262143]) H := by
  refine t_handle_masks_spec fun L => ?_
  unfold t_handle_masks
  refine wp_newP fun b hb => ?_
  refine wp_stA_of (Heap.set_same _ _ _) (by simp) (by simp [Value.single]) ?_
  rw [Heap.set_set]
  refine ⟨(3, 1073741823, 262143, ()), ldK_still (Heap.set_same _ _ _) 3 0 #[] (by simp [putAll]) rfl, H, Heap.le_set_new _ hb, rfl, rfl⟩

theorem Size_det (c : Int) (H : Heap) : Det Try.prog f_handle_Size [.int .i64 c] H (.int .i64 (sizeF c)) H := by
  refine t_handle_Size_spec fun L => ?_
  unfold t_handle_Size
  simp only [wp_bif, decide_eq_true_eq, decide_eq_false_iff_not]
  refine ⟨fun h => wp_ret_of ⟨by simp [sizeF, h], rfl⟩, fun h => ⟨fun h' => wp_ret_of ⟨by simp [sizeF, h, h'], rfl⟩, fun h' => ?_⟩⟩
  have : c = 0 ∨ c = 1 ∨ c = 2 ∨ c = 3 := by omega
  rcases this with rfl | rfl | rfl | rfl
  all_goals exact look_val (x := (sizeF _ : Int)) (by kernel_rfl) (wp_ret_of ⟨rfl, rfl⟩)
end Go.Proofs.Ytgnifhkjpekkdaa

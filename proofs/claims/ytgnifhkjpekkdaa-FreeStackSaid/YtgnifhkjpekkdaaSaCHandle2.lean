import Derived.Test.YtgnifhkjpekkdaaSaCHandle
set_option linter.unusedVariables false
namespace Go.Proofs.Ytgnifhkjpekkdaa
open Go Go.Fw


theorem Pack_det (b g c : Int) (H : Heap) : Det Try.prog f_handle_Pack [.int .i64 b, .int .i64 g, .int .i64 c] H (.int .i64 (packF b g c)) H := by
  refine t_handle_Pack_spec fun L => ?_
  unfold t_handle_Pack
  simp only [wp_bif, decide_eq_true_eq, decide_eq_false_iff_not]
  have no : ¬ validN b g c → wp Try.prog (.ret (.int .i64 0)) L H (fun u K => u = .int .i64 (packF b g c) ∧ K = H) := fun h => wp_ret_of ⟨by rw [packF, if_neg h], rfl⟩
  refine ⟨fun h => no (by unfold validN; omega), fun h0 => ⟨fun h => no (by unfold validN; omega), fun h1 => ⟨fun h => no (by unfold validN; omega), fun h2 => ⟨fun h => no (by unfold validN; omega), fun h3 =>
    ⟨fun h => no (by unfold validN; omega), fun h4 => ⟨fun h => no (by unfold validN; omega), fun h5 => ?_⟩⟩⟩⟩⟩⟩
  have hv : validN b g c := by unfold validN; omega
  refine wp_qcall_det (x := (0, 2, 32, ())) (places_det H) ?_
  refine wp_newP fun x hx => ?_
  refine wp_stA_of (Heap.set_same _ _ _) (by simp) (by simp [Value.single]) ?_
  rw [Heap.set_set]
  obtain ⟨b, rfl⟩ := Int.eq_ofNat_of_zero_le (by omega : 0 ≤ b)
  obtain ⟨g, rfl⟩ := Int.eq_ofNat_of_zero_le (by omega : 0 ≤ g)
  obtain ⟨c, rfl⟩ := Int.eq_ofNat_of_zero_le (by omega : 0 ≤ c)
  have e1 := or_step1 c (by omega)
  have e2 := or_step2 c g (by omega) (by omega)
  have e3 := or_step3 c g b (by omega) (by omega) (by omega)
  have s0 : (opS Try.prog (.index ty_a3_int (.tmp 0) (.tmp 1)) ty_int [(.agg #[(.int .i64 c), (.int .i64 g), (.int .i64 b)]), (.int .i64 0)]) = .pure (.value (.int .i64 c)) := by kernel_rfl
  have s1 : (opS Try.prog (.index ty_a3_int (.tmp 0) (.tmp 1)) ty_int [(.agg #[(.int .i64 c), (.int .i64 g), (.int .i64 b)]), (.int .i64 1)]) = .pure (.value (.int .i64 g)) := by kernel_rfl
  have s2 : (opS Try.prog (.index ty_a3_int (.tmp 0) (.tmp 1)) ty_int [(.agg #[(.int .i64 c), (.int .i64 g), (.int .i64 b)]), (.int .i64 2)]) = .pure (.value (.int .i64 b)) := by kernel_rfl
  have t0 : ∀ a, (opS Try.prog (.indexAddr ty_a3_int (.tmp 0) (.tmp 1)) ty_unit [(.pointer (some a)), (.int .i64 0)]) = .pure (.value (.pointer (some (a.add 0)))) := fun a => by kernel_rfl
  have t1 : ∀ a, (opS Try.prog (.indexAddr ty_a3_int (.tmp 0) (.tmp 1)) ty_unit [(.pointer (some a)), (.int .i64 1)]) = .pure (.value (.pointer (some (a.add 1)))) := fun a => by kernel_rfl
  have t2 : ∀ a, (opS Try.prog (.indexAddr ty_a3_int (.tmp 0) (.tmp 1)) ty_unit [(.pointer (some a)), (.int .i64 2)]) = .pure (.value (.pointer (some (a.add 2)))) := fun a => by kernel_rfl
  -- round 0
  refine wp_loop_unroll (1125899906842624, 0, ()) rfl ?_
  rw [t_handle_Pack_L1]
  rw [show (decide ((0 : Int) < 3)) = true from rfl, cond_true]
  refine look_val (x := (c : Int)) s0 ?_
  refine look_val (x := ⟨x, 0, none⟩) (t0 _) ?_
  refine wp_ld_of (x := (0 : Int)) (by rw [Heap.cell_set]; rfl) ?_
  refine look_val (x := (c : Int)) (by rw [opS_shl (by omega), shl0 (by omega)]) ?_
  refine wp_again ?_
  rw [ior1 (by omega), w64_1]
  -- round 1
  refine wp_loop_unroll (1125899906842624 + c, 1, ()) rfl ?_
  rw [t_handle_Pack_L1]
  rw [show (decide ((1 : Int) < 3)) = true from rfl, cond_true]
  refine look_val (x := (g : Int)) s1 ?_
  refine look_val (x := ⟨x, 1, none⟩) (t1 _) ?_
  refine wp_ld_of (x := (2 : Int)) (by rw [Heap.cell_set]; rfl) ?_
  refine look_val (x := ((4 * g : Nat) : Int)) (by rw [opS_shl (by omega), shl2 (by omega)]) ?_
  refine wp_again ?_
  rw [ior2 (by omega) (by omega), w64_2]
  -- round 2
  refine wp_loop_unroll (1125899906842624 + c + 4 * g, 2, ()) rfl ?_
  rw [t_handle_Pack_L1]
  rw [show (decide ((2 : Int) < 3)) = true from rfl, cond_true]
  refine look_val (x := (b : Int)) s2 ?_
  refine look_val (x := ⟨x, 2, none⟩) (t2 _) ?_
  refine wp_ld_of (x := (32 : Int)) (by rw [Heap.cell_set]; rfl) ?_
  refine look_val (x := ((4294967296 * b : Nat) : Int)) (by rw [opS_shl (by omega), shl32 (by omega)]) ?_
  refine wp_again ?_
  rw [ior3 (by omega) (by omega) (by omega), w64_3]
  refine wp_loop_unroll (packN b g c, 3, ()) rfl ?_
  rw [t_handle_Pack_L1]
  rw [show (decide ((3 : Int) < 3)) = false from rfl, cond_false]
  exact ⟨H, Heap.le_set_new _ hx, by rw [packF, if_pos hv], rfl⟩
end Go.Proofs.Ytgnifhkjpekkdaa

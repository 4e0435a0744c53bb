import Derived.Test.YtgnifhkjpekkdaaSaCHandle2
set_option linter.unusedVariables false
namespace Go.Proofs.Ytgnifhkjpekkdaa
open Go Go.Fw

def openV (h : Int) : Value := if openOk h then .tuple #[.int .i64 (oBase h), .int .i64 (oGen h), .int .i64 (oClass h), .bool true] else .tuple #[.int .i64 0, .int .i64 0, .int .i64 0, .bool false]

theorem shr0 (h : Int) : h.fdiv (2 ^ (min (Int.toNat 0) 64)) = h := by
  rw [show (2 : Int) ^ (min (Int.toNat 0) 64) = 1 from rfl]; simp
theorem shr2 (h : Int) : h.fdiv (2 ^ (min (Int.toNat 2) 64)) = h / 4 := by
  rw [show (2 : Int) ^ (min (Int.toNat 2) 64) = 4 from rfl, Int.fdiv_eq_ediv_of_nonneg _ (by omega)]
theorem shr32 (h : Int) : h.fdiv (2 ^ (min (Int.toNat 32) 64)) = h / 4294967296 := by
  rw [show (2 : Int) ^ (min (Int.toNat 32) 64) = 4294967296 from rfl, Int.fdiv_eq_ediv_of_nonneg _ (by omega)]
theorem mask2 (x : Int) : iand x 3 = x % 4 := iand_mask x 2 (by omega)
theorem mask30 (x : Int) : iand x 1073741823 = x % 1073741824 := iand_mask x 30 (by omega)
theorem mask18 (x : Int) : iand x 262143 = x % 262144 := iand_mask x 18 (by omega)

theorem Open_det (h : Int) (H : Heap) : Det Try.prog f_handle_Open [.int .i64 h] H (openV h) H := by
  refine t_handle_Open_spec fun L => ?_
  unfold t_handle_Open
  refine wp_qcall_det (x := (0, 2, 32, ())) (places_det H) ?_
  refine wp_qcall_det (x := (3, 1073741823, 262143, ())) (masks_det H) ?_
  refine wp_newP fun a ha => ?_
  refine wp_newP fun m hm => ?_
  have hma : m ≠ a := fun e => by subst e; simp [Heap.set] at hm
  have ham : a ≠ m := fun e => hma e.symm
  refine wp_stA_of (c := #[.int .i64 0, .int .i64 0, .int .i64 0]) (T := ty_a3_int) (by rw [Heap.set_ne _ _ ham, Heap.set_same]) (by simp) (by simp [Value.single]) ?_
  refine wp_stA_of (c := #[.int .i64 0, .int .i64 0, .int .i64 0]) (T := ty_a3_int) (by rw [Heap.set_ne _ _ hma, Heap.set_same]) (by simp) (by simp [Value.single]) ?_
  refine wp_newP fun l hl => ?_
  have hla : l ≠ a := fun e => by subst e; rw [Heap.set_ne _ _ ham, Heap.set_same] at hl; cases hl
  have hlm : l ≠ m := fun e => by subst e; rw [Heap.set_same] at hl; cases hl
  have hl0 : H l = none := by
    rw [Heap.set_ne _ _ hlm, Heap.set_ne _ _ hla, Heap.set_ne _ _ hlm, Heap.set_ne _ _ hla] at hl; exact hl
  have hm0 : H m = none := by rw [Heap.set_ne _ _ hma] at hm; exact hm
  -- the heap at the loop
  generalize hK : ((((H.set a _).set m _).set a _).set m _) = K
  have Ka : K a = some (.cells #[.int .i64 0, .int .i64 2, .int .i64 32] ty_a3_int (0, 0)) := by rw [← hK, Heap.set_ne _ _ ham, Heap.set_same]; rfl
  have Km : K m = some (.cells #[.int .i64 3, .int .i64 1073741823, .int .i64 262143] ty_a3_int (0, 0)) := by rw [← hK, Heap.set_same]; rfl
  have hle : H.le K := fun b o e => by
    have h1 : b ≠ a := fun e' => by subst e'; rw [ha] at e; cases e
    have h2 : b ≠ m := fun e' => by subst e'; rw [hm0] at e; cases e
    rw [← hK, Heap.set_ne _ _ h2, Heap.set_ne _ _ h1, Heap.set_ne _ _ h2, Heap.set_ne _ _ h1]; exact e
  have hle' : ∀ o, H.le (K.set l o) := fun o b o' e => by
    have h1 : b ≠ l := fun e' => by subst e'; rw [hl0] at e; cases e
    rw [Heap.set_ne _ _ h1]; exact hle b o' e
  clear hK
  have t0 : ∀ a, (opS Try.prog (.indexAddr ty_a3_int (.tmp 0) (.tmp 1)) ty_unit [(.pointer (some a)), (.int .i64 0)]) = .pure (.value (.pointer (some (a.add 0)))) := fun a => by kernel_rfl
  have t1 : ∀ a, (opS Try.prog (.indexAddr ty_a3_int (.tmp 0) (.tmp 1)) ty_unit [(.pointer (some a)), (.int .i64 1)]) = .pure (.value (.pointer (some (a.add 1)))) := fun a => by kernel_rfl
  have t2 : ∀ a, (opS Try.prog (.indexAddr ty_a3_int (.tmp 0) (.tmp 1)) ty_unit [(.pointer (some a)), (.int .i64 2)]) = .pure (.value (.pointer (some (a.add 2)))) := fun a => by kernel_rfl
  refine wp_loop_unroll (0, ()) rfl ?_
  rw [t_handle_Open_L1, show (decide ((0 : Int) < 3)) = true from rfl, cond_true]
  refine look_val (x := ⟨a, 0, none⟩) (t0 _) ?_
  refine wp_ld_of (x := (0 : Int)) (by rw [Heap.cell_ne hla.symm, Heap.cell_of Ka]; rfl) ?_
  refine look_val (x := (h : Int)) (by rw [opS_shr (by omega), shr0]) ?_
  refine look_val (x := ⟨m, 0, none⟩) (t0 _) ?_
  refine wp_ld_of (x := (3 : Int)) (by rw [Heap.cell_ne hlm.symm, Heap.cell_of Km]; rfl) ?_
  refine look_val (x := ⟨l, 0, none⟩) (t0 _) ?_
  refine wp_st_of (Heap.set_same _ _ _) rfl rfl ?_
  rw [Heap.set_set, w64_1, mask2]
  refine wp_again ?_
  refine wp_loop_unroll (1, ()) rfl ?_
  rw [t_handle_Open_L1, show (decide ((1 : Int) < 3)) = true from rfl, cond_true]
  refine look_val (x := ⟨a, 1, none⟩) (t1 _) ?_
  refine wp_ld_of (x := (2 : Int)) (by rw [Heap.cell_ne hla.symm, Heap.cell_of Ka]; rfl) ?_
  refine look_val (x := (h / 4 : Int)) (by rw [opS_shr (by omega), shr2]) ?_
  refine look_val (x := ⟨m, 1, none⟩) (t1 _) ?_
  refine wp_ld_of (x := (1073741823 : Int)) (by rw [Heap.cell_ne hlm.symm, Heap.cell_of Km]; rfl) ?_
  refine look_val (x := ⟨l, 1, none⟩) (t1 _) ?_
  refine wp_st_of (Heap.set_same _ _ _) rfl rfl ?_
  rw [Heap.set_set, w64_2, mask30]
  refine wp_again ?_
  refine wp_loop_unroll (2, ()) rfl ?_
  rw [t_handle_Open_L1, show (decide ((2 : Int) < 3)) = true from rfl, cond_true]
  refine look_val (x := ⟨a, 2, none⟩) (t2 _) ?_
  refine wp_ld_of (x := (32 : Int)) (by rw [Heap.cell_ne hla.symm, Heap.cell_of Ka]; rfl) ?_
  refine look_val (x := (h / 4294967296 : Int)) (by rw [opS_shr (by omega), shr32]) ?_
  refine look_val (x := ⟨m, 2, none⟩) (t2 _) ?_
  refine wp_ld_of (x := (262143 : Int)) (by rw [Heap.cell_ne hlm.symm, Heap.cell_of Km]; rfl) ?_
  refine look_val (x := ⟨l, 2, none⟩) (t2 _) ?_
  refine wp_st_of (Heap.set_same _ _ _) rfl rfl ?_
  rw [Heap.set_set, w64_3, mask18]
  refine wp_again ?_
  refine wp_loop_unroll (3, ()) rfl ?_
  rw [t_handle_Open_L1, show (decide ((3 : Int) < 3)) = false from rfl, cond_false]
  refine wp_ld_of (x := oBase h) (by rw [Addr.add_mk, Heap.cell_set]; rfl) ?_
  refine wp_ld_of (x := oGen h) (by rw [Addr.add_mk, Heap.cell_set]; rfl) ?_
  refine wp_ld_of (x := oClass h) (by rw [Heap.cell_set]; rfl) ?_
  rw [wp_bif]
  have no : openOk h = false → wp Try.prog (.ret (.tuple #[(.int .i64 0), (.int .i64 0), (.int .i64 0), (.bool false)])) L
      (K.set l (.cells #[.int .i64 (h % 4), .int .i64 (h / 4 % 1073741824), .int .i64 (h / 4294967296 % 262144)] ty_a3_int (0, 0))) (fun u K => u = openV h ∧ K = H) := fun hk => ⟨H, hle' _, by rw [openV, hk]; rfl, rfl⟩
  refine ⟨fun h0 => no ?_, fun h0 => ?_⟩
  · unfold openOk; simp only [beq_iff_eq] at h0; simp [h0]
  · refine wp_qcall_det (x := packF (oBase h) (oGen h) (oClass h)) (Pack_det _ _ _ _) ?_
    rw [wp_bif]
    simp only [beq_eq_false_iff_ne] at h0
    refine ⟨fun h1 => no ?_, fun h1 => ?_⟩
    · unfold openOk; simp only [bne_iff_ne] at h1; simp [h1]
    · have hk : openOk h = true := by
        unfold openOk; simp only [bne_eq_false_iff_eq] at h1; simp [h0, h1]
      exact ⟨H, hle' _, by rw [openV, hk]; rfl, rfl⟩
end Go.Proofs.Ytgnifhkjpekkdaa

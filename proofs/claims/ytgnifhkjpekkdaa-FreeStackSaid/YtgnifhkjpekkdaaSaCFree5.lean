import Derived.Test.YtgnifhkjpekkdaaSaCFree4
set_option linter.unusedVariables false
set_option maxRecDepth 20000
namespace Go.Proofs.Ytgnifhkjpekkdaa
open Go Go.Fw

/-- The places of so many workers and words. -/
def plOf (w m : Int) : Pl := ⟨w, 0, 4 * w, 4 * w + (m + 7) / 8, 4 * w + 2 * ((m + 7) / 8)⟩

theorem singles (l : List Value) (h : l.all Value.single = true) : ∀ v ∈ l, Value.single v = true := fun v hv => List.all_eq_true.1 h v hv

theorem Raw5_det (w m w' m' : Int) (hw : imax w 0 = w') (hm : imax m 0 = m') (b1 : 0 ≤ w' ∧ w' ≤ 100000) (b2 : 0 ≤ m' ∧ m' ≤ 100000) (H : Heap) :
    Det Try.prog f_free_Raw [.int .i64 w, .int .i64 m] H (.tuple #[(plOf w' m').val, .int .i64 (4 * w' + 2 * ((m' + 7) / 8) + 1)]) H := by
  refine t_free_Raw_spec fun L => ?_
  unfold t_free_Raw
  rw [hw, hm]
  refine wp_newP fun b4 h4 => wp_newP fun b7 h7 => ?_
  obtain ⟨n7, h7⟩ := set_none h7
  have en : w64 (w64 (Int.tdiv m' 8) + imin (Int.tmod m' 8) 1) = (m' + 7) / 8 := by
    rw [Int.tdiv_eq_ediv_of_nonneg b2.1, Int.tmod_eq_emod_of_nonneg b2.1, w64_in (x := m' / 8) (by omega) (by omega)]
    unfold imin
    split <;> rw [w64_in (by omega) (by omega)] <;> omega
  rw [en]
  have e4 : w64 (4 * w') = 4 * w' := w64_in (by omega) (by omega)
  rw [e4]
  refine wp_stA_of (Heap.set_same _ _ _) (by exact Nat.le_refl 5) (singles _ rfl) ?_
  rw [Heap.set_set]
  have c1 : putAll #[.int .i64 0, .int .i64 0, .int .i64 0, .int .i64 0, .int .i64 0] 0 [.int .i64 w', .int .i64 0, .int .i64 (4 * w'), .int .i64 0, .int .i64 0] = #[.int .i64 w', .int .i64 0, .int .i64 (4 * w'), .int .i64 0, .int .i64 0] := rfl
  rw [c1]
  refine wp_ld_of (x := 4 * w') ((Heap.cell_set 2).trans rfl) ?_
  rw [w64_in (x := 4 * w' + (m' + 7) / 8) (by omega) (by omega)]
  refine wp_st_of (n := 3) (u := .int .i64 0) (Heap.set_same _ _ _) rfl rfl ?_
  rw [Heap.set_set]
  refine wp_ld_of (x := 4 * w' + (m' + 7) / 8) ((Heap.cell_set 3).trans rfl) ?_
  rw [w64_in (x := 4 * w' + (m' + 7) / 8 + (m' + 7) / 8) (by omega) (by omega)]
  refine wp_st_of (n := 4) (u := .int .i64 0) (Heap.set_same _ _ _) rfl rfl ?_
  rw [Heap.set_set]
  have e5 : 4 * w' + (m' + 7) / 8 + (m' + 7) / 8 = 4 * w' + 2 * ((m' + 7) / 8) := by omega
  rw [e5]
  have hc : H.set b4 (.cells #[.int .i64 0, .int .i64 0, .int .i64 0, .int .i64 0, .int .i64 0] ty_free_Place (0, 0)) b7 = none := by rw [Heap.set_ne _ _ n7]; exact h7
  refine wp_pl (p := plOf w' m') (Heap.set_same _ _ _) ?_
  refine wp_ld_of (x := 4 * w' + 2 * ((m' + 7) / 8)) ((Heap.cell_set 4).trans rfl) ?_
  rw [Heap.set_comm _ _ _ (Ne.symm n7)]
  refine wp_stA_of (Heap.set_same _ _ _) (by exact Nat.le_refl 5) (singles _ rfl) ?_
  rw [Heap.set_set, Heap.set_comm _ _ _ n7]
  refine ⟨⟨_, (Heap.cell_set 4).trans rfl, rfl⟩, ?_⟩
  rw [Heap.set_comm _ _ _ (Ne.symm n7)]
  refine ⟨((w', 0, 4 * w', 4 * w' + (m' + 7) / 8, 4 * w' + 2 * ((m' + 7) / 8), ()), 4 * w' + 2 * ((m' + 7) / 8) + 1, ()), ?_, ?_⟩
  · refine ldK_still (Heap.set_same _ _ _) 5 0 #[] (by exact Nat.le_refl 5) ?_
    have hx : (#[] ++ (plOf w' m').cells.extract 0 5) = (plOf w' m').cells := by unfold Pl.cells; simp
    show Value.tuple #[.agg (#[] ++ (plOf w' m').cells.extract 0 5), .int .i64 (w64 (4 * w' + 2 * ((m' + 7) / 8) + 1))] = _
    rw [hx, w64_in (by omega) (by omega)]; rfl
  · refine ⟨H, ?_, rfl, rfl⟩
    exact Heap.le_trans (Heap.le_set_new _ h7) (Heap.le_set_new _ (by rw [Heap.set_ne _ _ (Ne.symm n7)]; exact h4))
end Go.Proofs.Ytgnifhkjpekkdaa
